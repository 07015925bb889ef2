/- Functions of the given program as plain Lean functions, and that the machine's calls come to them; written by a program of this session; no condition but those that each theorem states. -/
import Derived.Test.YtknlgignjbghkaaDoorWRepsOne
import Derived.Test.YtknlgignjbghkaaDoorPrx0
import Derived.Test.YtknlgignjbghkaaDoorPrxg2cfb1n1
import Derived.Test.YtknlgignjbghkaaDoorPrxgd0f04n1
import Derived.Test.YtknlgignjbghkaaDoorPrxged182n2
namespace Go.Proofs.YtknlgignjbghkaaDoor.Pr
open Go.RowKit Go.Proofs.YtknlgignjbghkaaDoorW.PrintWords Go.Proofs.YtknlgignjbghkaaDoorW.PrintLast Go.Proofs.YtknlgignjbghkaaDoorW.PrintMore
attribute [local go_sem] max2_int min2_int max_two min_two max_three min_three max_four min_four   -- for this text's walks alone
set_option linter.unusedVariables false
set_option linter.unusedSimpArgs false

/-! ### spec_l4Words: function 57 -/
def spec_l4Words.f  : Option (List ByteArray) := some (([(⟨#[]⟩ : ByteArray), (⟨#[107, 101, 101, 112]⟩ : ByteArray), (⟨#[100, 114, 111, 112]⟩ : ByteArray), (⟨#[115, 101, 116]⟩ : ByteArray), (⟨#[109, 111, 100]⟩ : ByteArray), (⟨#[109, 97, 112]⟩ : ByteArray), (⟨#[107, 101, 101, 112, 110, 97, 109, 101, 115]⟩ : ByteArray), (⟨#[100, 114, 111, 112, 110, 97, 109, 101, 115]⟩ : ByteArray), (⟨#[108, 111, 119, 101, 114]⟩ : ByteArray)] : List ByteArray))
set_option maxHeartbeats 8000000 in
set_option maxRecDepth 100000 in
theorem spec_l4Words.calls  (r : List ByteArray) (w : World) (h : spec_l4Words.f  = some r) :
  Calls Tryd.prog 57 #[] w fun e w' => ∃ v0_ : Value, e = .returned (v0_) ∧ Kd.R Kd.string 9 w' w.heap.size (fun _ => True) v0_ r ∧ Below w.heap.size w w' := by
 have HB := am_ (Below.refl w.heap.size w)
 have H : (some (([(⟨#[]⟩ : ByteArray), (⟨#[107, 101, 101, 112]⟩ : ByteArray), (⟨#[100, 114, 111, 112]⟩ : ByteArray), (⟨#[115, 101, 116]⟩ : ByteArray), (⟨#[109, 111, 100]⟩ : ByteArray), (⟨#[109, 97, 112]⟩ : ByteArray), (⟨#[107, 101, 101, 112, 110, 97, 109, 101, 115]⟩ : ByteArray), (⟨#[100, 114, 111, 112, 110, 97, 109, 101, 115]⟩ : ByteArray), (⟨#[108, 111, 119, 101, 114]⟩ : ByteArray)] : List ByteArray))) = some r := h
 clear h
 obtain ⟨y1001, hy1001⟩ : ∃ y_ : List ByteArray, y_ = (([(⟨#[]⟩ : ByteArray), (⟨#[107, 101, 101, 112]⟩ : ByteArray), (⟨#[100, 114, 111, 112]⟩ : ByteArray), (⟨#[115, 101, 116]⟩ : ByteArray), (⟨#[109, 111, 100]⟩ : ByteArray), (⟨#[109, 97, 112]⟩ : ByteArray), (⟨#[107, 101, 101, 112, 110, 97, 109, 101, 115]⟩ : ByteArray), (⟨#[100, 114, 111, 112, 110, 97, 109, 101, 115]⟩ : ByteArray), (⟨#[108, 111, 119, 101, 114]⟩ : ByteArray)] : List ByteArray)) := ⟨_, rfl⟩
 replace H : (some y1001) = some r := by first | (rw [hy1001]; with_reducible exact H) | (have H2_ := (Option.bind_some _ _).symm.trans H; rw [hy1001]; with_reducible exact H2_) | (have H2_ := (Option.bind_some _ _).symm.trans H; with_reducible exact H2_) | with_reducible exact H | (rw [hy1001]; exact H) | exact H
 have Ny1001 := am_ hy1001
 clear hy1001
 obtain rfl := Option.some.inj H
 go_enter Tryd.func57, Tryd.ntmps57
 go_wp2_with (first | ((with_reducible refine gate_dst (N := 1) rfl ?_); refine Kd.R_lit Kd.string _ 9 ?hg (N := 1) ?hd (xs := ([(⟨#[]⟩ : ByteArray), (⟨#[107, 101, 101, 112]⟩ : ByteArray), (⟨#[100, 114, 111, 112]⟩ : ByteArray), (⟨#[115, 101, 116]⟩ : ByteArray), (⟨#[109, 111, 100]⟩ : ByteArray), (⟨#[109, 97, 112]⟩ : ByteArray), (⟨#[107, 101, 101, 112, 110, 97, 109, 101, 115]⟩ : ByteArray), (⟨#[100, 114, 111, 112, 110, 97, 109, 101, 115]⟩ : ByteArray), (⟨#[108, 111, 119, 101, 114]⟩ : ByteArray)] : List ByteArray)) (inner := [.string (⟨#[]⟩ : ByteArray), .string (⟨#[107, 101, 101, 112]⟩ : ByteArray), .string (⟨#[100, 114, 111, 112]⟩ : ByteArray), .string (⟨#[115, 101, 116]⟩ : ByteArray), .string (⟨#[109, 111, 100]⟩ : ByteArray), .string (⟨#[109, 97, 112]⟩ : ByteArray), .string (⟨#[107, 101, 101, 112, 110, 97, 109, 101, 115]⟩ : ByteArray), .string (⟨#[100, 114, 111, 112, 110, 97, 109, 101, 115]⟩ : ByteArray), .string (⟨#[108, 111, 119, 101, 114]⟩ : ByteArray)]) (ok := fun _ => True) (okp := fun _ => True) ?hr ?hp (fun _ hk => hk) trivial (Below.refl _ _) (Nat.le_refl _) (by simp) ?_; (case hd => rfl); (case hg => rfl); (case hr => first | (go_simp; done) | (go_simp; rfl)); (case hp => exact (Reps.one (show Kd.M Kd.string _ _ _ (⟨#[]⟩ : ByteArray) [.string (⟨#[]⟩ : ByteArray)] from rfl) (Reps.one (show Kd.M Kd.string _ _ _ (⟨#[107, 101, 101, 112]⟩ : ByteArray) [.string (⟨#[107, 101, 101, 112]⟩ : ByteArray)] from rfl) (Reps.one (show Kd.M Kd.string _ _ _ (⟨#[100, 114, 111, 112]⟩ : ByteArray) [.string (⟨#[100, 114, 111, 112]⟩ : ByteArray)] from rfl) (Reps.one (show Kd.M Kd.string _ _ _ (⟨#[115, 101, 116]⟩ : ByteArray) [.string (⟨#[115, 101, 116]⟩ : ByteArray)] from rfl) (Reps.one (show Kd.M Kd.string _ _ _ (⟨#[109, 111, 100]⟩ : ByteArray) [.string (⟨#[109, 111, 100]⟩ : ByteArray)] from rfl) (Reps.one (show Kd.M Kd.string _ _ _ (⟨#[109, 97, 112]⟩ : ByteArray) [.string (⟨#[109, 97, 112]⟩ : ByteArray)] from rfl) (Reps.one (show Kd.M Kd.string _ _ _ (⟨#[107, 101, 101, 112, 110, 97, 109, 101, 115]⟩ : ByteArray) [.string (⟨#[107, 101, 101, 112, 110, 97, 109, 101, 115]⟩ : ByteArray)] from rfl) (Reps.one (show Kd.M Kd.string _ _ _ (⟨#[100, 114, 111, 112, 110, 97, 109, 101, 115]⟩ : ByteArray) [.string (⟨#[100, 114, 111, 112, 110, 97, 109, 101, 115]⟩ : ByteArray)] from rfl) (Reps.one (show Kd.M Kd.string _ _ _ (⟨#[108, 111, 119, 101, 114]⟩ : ByteArray) [.string (⟨#[108, 111, 119, 101, 114]⟩ : ByteArray)] from rfl) (Reps.none _ _))))))))))); intro v1002 w1 ho2 hb hg_ hnew_; clear hg_ hnew_; (first | rw [← Ny1001.out] at ho2 | (simp only [Int.reduceToNat] at ho2; rw [← Ny1001.out] at ho2)); have HO1003 := am_ (Kd.R_lower ho2 (below_size bl_)); replace HB := am_ (below_step bl_ hb); clear hb ho2))
 go_ret
 exact ⟨_, rf_, by (with_reducible repeat (first | apply Kd.R_alloc | apply Kd.R_drewN | apply Kd.R_drew)); exact HO1003.out, bl_⟩

/-! ### spec_l2Num: function 58 -/
def spec_l2Num.l0 : Nat → Int → ByteArray → Bool → Option (ByteArray)
 | 0, _, _, _ => none
 | k + 1, x0, x3, x4 => if x0 = 0 then (if x4 = true then (if 1 + x3.size ≤ 9223372036854775807 then (some ((⟨#[45]⟩ : ByteArray) ++ x3)) else (none)) else (some x3)) else (if (Int.tmod x0 10) < 0 then ((some (([(wrap64 (48 + (wrap64 (-(Int.tmod x0 10))))) % 256] : List Int) : List Int)).bind fun y1001 => (if (strOfNums y1001).size + x3.size ≤ 9223372036854775807 then (spec_l2Num.l0 k (wrap64 (Int.tdiv x0 10)) ((strOfNums y1001) ++ x3) x4) else (none))) else ((some (([(wrap64 (48 + (Int.tmod x0 10))) % 256] : List Int) : List Int)).bind fun y1004 => (if (strOfNums y1004).size + x3.size ≤ 9223372036854775807 then (spec_l2Num.l0 k (wrap64 (Int.tdiv x0 10)) ((strOfNums y1004) ++ x3) x4) else (none))))
def spec_l2Num.f (k : Nat) (a0 : Int) : Option (ByteArray) := if a0 = 0 then (some (⟨#[48]⟩ : ByteArray)) else (spec_l2Num.l0 k a0 (⟨#[]⟩ : ByteArray) (decide (a0 < 0)))
theorem spec_l2Num.mono_l : ∀ k, (∀ y0 y1 y2, LeO (spec_l2Num.l0 k y0 y1 y2) (spec_l2Num.l0 (k + 1) y0 y1 y2))
 | 0 => fun _ _ _ r h => by simp [spec_l2Num.l0] at h
 | k + 1 => by
  have ih0 := spec_l2Num.mono_l k
  ·intro y0 y1 y2
   unfold spec_l2Num.l0
   repeat' first
   | with_reducible first | exact ih0 _ _ _ | exact LeO.refl _ | exact LeO.none _ | refine LeO.ite ?_ ?_ | refine LeO.bind ?_ (fun _ => ?_)
   | exact ih0 _ _ _
   | exact LeO.none _
   | refine LeO.ite ?_ ?_
   | refine LeO.bind ?_ (fun _ => ?_)
theorem spec_l2Num.mono : ∀ a0 k, LeO (spec_l2Num.f k a0) (spec_l2Num.f (k + 1) a0) := by
 intro a0 k
 have ih0 := spec_l2Num.mono_l k
 unfold spec_l2Num.f
 repeat' first
   | with_reducible first | exact ih0 _ _ _ | exact LeO.refl _ | exact LeO.none _ | refine LeO.ite ?_ ?_ | refine LeO.bind ?_ (fun _ => ?_)
   | exact ih0 _ _ _
   | exact LeO.none _
   | refine LeO.ite ?_ ?_
   | refine LeO.bind ?_ (fun _ => ?_)
set_option maxHeartbeats 8000000 in
set_option maxRecDepth 100000 in
theorem spec_l2Num.calls (k : Nat) (a0 : Int) (r : ByteArray) (w : World) (h : spec_l2Num.f k a0 = some r) :
  Calls Tryd.prog 58 #[.int .i64 a0] w fun e w' => e = .returned (.string r) ∧ Below w.heap.size w w' := by
 have HB := am_ (Below.refl w.heap.size w)
 have H : (if a0 = 0 then (some (⟨#[48]⟩ : ByteArray)) else (spec_l2Num.l0 k a0 (⟨#[]⟩ : ByteArray) (decide (a0 < 0)))) = some r := h
 clear h
 by_cases c2 : a0 = 0
 ·rw [if_pos c2] at H
  have c2b0 : (a0 == 0) = true := beq_iff_eq.mpr c2
  have c2b1 : (a0 != 0) = false := bne_eq_false_iff_eq.mpr c2
  clear c2
  obtain rfl := Option.some.inj H
  go_enter Tryd.func58, Tryd.ntmps58
  go_wp2
  go_ret
  exact ⟨rf_, bl_⟩
 ·rw [if_neg c2] at H
  have c2b0 : (a0 == 0) = false := beq_eq_false_iff_ne.mpr c2
  have c2b1 : (a0 != 0) = true := bne_iff_ne.mpr c2
  have H' := am_ H
  clear H
  go_enter Tryd.func58, Tryd.ntmps58
  go_wp2
  go_loopg [0, 3] k (fun kq v0 v3 w' => ∃ (x0_1 : Int) (x3_1 : ByteArray), v0 = .int .i64 x0_1 ∧ v3 = .string x3_1 ∧ Aside0 (spec_l2Num.l0 kq x0_1 x3_1 (decide (a0 < 0)) = some r) ∧ Aside0 (kq ≤ k) ∧ Aside0 (Below w.heap.size w w'))
  case atStart => exact ⟨(a0), ((⟨#[]⟩ : ByteArray)), rs_, rs_, H', ⟨Nat.le_refl _⟩, ⟨bl_⟩⟩
  case round =>
   clear H'
   try clear c2
   try clear c2b0
   try clear c2b1
   try clear p2
   obtain ⟨x0_1, x3_1, rfl, rfl, HA, HK1, HB⟩ := hrel
   cases gk with
   | zero => exact absurd HA.out (by simp [spec_l2Num.l0])
   | succ k1 =>
    have H := HA.out
    clear HA
    simp only [spec_l2Num.l0] at H
    by_cases c3 : x0_1 = 0
    ·rw [if_pos c3] at H
     have c3b0 : (x0_1 == 0) = true := beq_iff_eq.mpr c3
     have c3b1 : (x0_1 != 0) = false := bne_eq_false_iff_eq.mpr c3
     clear c3
     by_cases c4 : (decide (a0 < 0)) = true
     ·rw [if_pos c4] at H
      have c4b0 : (decide (a0 < 0)) = true := c4
      try have c4b9 : a0 < 0 := of_decide_eq_true c4b0
      clear c4
      by_cases c5 : 1 + x3_1.size ≤ 9223372036854775807
      ·rw [if_pos c5] at H
       have c5b0 := eq_true c5
       have c5b1 : decide (1 + x3_1.size ≤ 9223372036854775807) = true := decide_eq_true c5
       try have c5b2 : (9223372036854775807 < 1 + x3_1.size) = False := eq_false (Nat.not_lt.2 c5)
       obtain rfl := Option.some.inj H
       go_wp2
       go_ret
       exact ⟨rf_, bl_⟩
      ·rw [if_neg c5] at H
       exact absurd H (by simp)
     ·rw [if_neg c4] at H
      have c4b0 : (decide (a0 < 0)) = false := by simpa using c4
      try have c4b9 : ¬ (a0 < 0) := of_decide_eq_false c4b0
      clear c4
      obtain rfl := Option.some.inj H
      go_wp2
      go_ret
      exact ⟨rf_, bl_⟩
    ·rw [if_neg c3] at H
     have c3b0 : (x0_1 == 0) = false := beq_eq_false_iff_ne.mpr c3
     have c3b1 : (x0_1 != 0) = true := bne_iff_ne.mpr c3
     by_cases c6 : (Int.tmod x0_1 10) < 0
     ·rw [if_pos c6] at H
      have c6b0 : decide ((Int.tmod x0_1 10) < 0) = true := decide_eq_true c6
      clear c6
      obtain ⟨y1001, hy1001⟩ : ∃ y_ : List Int, y_ = (([(wrap64 (48 + (wrap64 (-(Int.tmod x0_1 10))))) % 256] : List Int)) := ⟨_, rfl⟩
      replace H : (if (strOfNums y1001).size + x3_1.size ≤ 9223372036854775807 then (spec_l2Num.l0 k1 (wrap64 (Int.tdiv x0_1 10)) ((strOfNums y1001) ++ x3_1) (decide (a0 < 0))) else (none)) = some r := by first | (rw [hy1001]; with_reducible exact H) | (have H2_ := (Option.bind_some _ _).symm.trans H; rw [hy1001]; with_reducible exact H2_) | (have H2_ := (Option.bind_some _ _).symm.trans H; with_reducible exact H2_) | with_reducible exact H | (rw [hy1001]; exact H) | exact H
      have Ny1001 := am_ hy1001
      clear hy1001
      by_cases c7 : (strOfNums y1001).size + x3_1.size ≤ 9223372036854775807
      ·rw [if_pos c7] at H
       have c7b0 := eq_true c7
       have c7b1 : decide ((strOfNums y1001).size + x3_1.size ≤ 9223372036854775807) = true := decide_eq_true c7
       try have c7b2 : (9223372036854775807 < (strOfNums y1001).size + x3_1.size) = False := eq_false (Nat.not_lt.2 c7)
       have H' := am_ H
       clear H
       go_wp2_with (first | ((with_reducible refine gate_dst (N := 21) rfl ?_); refine Kd.R_lit (Kd.int .u8) _ 5 ?hg (N := 21) ?hd (xs := ([(wrap64 (48 + (wrap64 (-(Int.tmod x0_1 10))))) % 256] : List Int)) (inner := [.int .u8 ((wrap64 (48 + (wrap64 (-(Int.tmod x0_1 10))))) % 256)]) (ok := fun _ => True) (okp := fun _ => True) ?hr ?hp (fun _ hk => hk) trivial (Below.refl _ _) (Nat.le_refl _) (by simp) ?_; (case hd => rfl); (case hg => rfl); (case hr => first | (go_simp; done) | (go_simp; rfl)); (case hp => exact (Reps.one (show Kd.M (Kd.int .u8) _ _ _ ((wrap64 (48 + (wrap64 (-(Int.tmod x0_1 10))))) % 256) [.int .u8 ((wrap64 (48 + (wrap64 (-(Int.tmod x0_1 10))))) % 256)] from rfl) (Reps.none _ _))); intro v1002 w8 ho9 hb hg_ hnew_; clear hg_ hnew_; (first | rw [← Ny1001.out] at ho9 | (simp only [Int.reduceToNat] at ho9; rw [← Ny1001.out] at ho9)); have HO1003 := am_ (Kd.R_lower ho9 (below_size bl_)); replace HB := am_ (below_step bl_ hb); clear hb ho9; have hcv10 := own_string (P := Tryd.prog) Tryd.underlying67 Tryd.underlying5 Tryd.underlying9 (Kd.own_of_R HO1003.out)))
       go_roundg k1
       case measure => have := HK1.out; omega
       case rel => exact ⟨(wrap64 (Int.tdiv x0_1 10)), ((strOfNums y1001) ++ x3_1), rs_, rs_, H', ⟨by have := HK1.out; omega⟩, ⟨bl_⟩⟩
      ·rw [if_neg c7] at H
       exact absurd H (by simp)
     ·rw [if_neg c6] at H
      have c6b0 : decide ((Int.tmod x0_1 10) < 0) = false := decide_eq_false c6
      clear c6
      obtain ⟨y1004, hy1004⟩ : ∃ y_ : List Int, y_ = (([(wrap64 (48 + (Int.tmod x0_1 10))) % 256] : List Int)) := ⟨_, rfl⟩
      replace H : (if (strOfNums y1004).size + x3_1.size ≤ 9223372036854775807 then (spec_l2Num.l0 k1 (wrap64 (Int.tdiv x0_1 10)) ((strOfNums y1004) ++ x3_1) (decide (a0 < 0))) else (none)) = some r := by first | (rw [hy1004]; with_reducible exact H) | (have H2_ := (Option.bind_some _ _).symm.trans H; rw [hy1004]; with_reducible exact H2_) | (have H2_ := (Option.bind_some _ _).symm.trans H; with_reducible exact H2_) | with_reducible exact H | (rw [hy1004]; exact H) | exact H
      have Ny1004 := am_ hy1004
      clear hy1004
      by_cases c11 : (strOfNums y1004).size + x3_1.size ≤ 9223372036854775807
      ·rw [if_pos c11] at H
       have c11b0 := eq_true c11
       have c11b1 : decide ((strOfNums y1004).size + x3_1.size ≤ 9223372036854775807) = true := decide_eq_true c11
       try have c11b2 : (9223372036854775807 < (strOfNums y1004).size + x3_1.size) = False := eq_false (Nat.not_lt.2 c11)
       have H' := am_ H
       clear H
       go_wp2_with (first | ((with_reducible refine gate_dst (N := 21) rfl ?_); refine Kd.R_lit (Kd.int .u8) _ 5 ?hg (N := 21) ?hd (xs := ([(wrap64 (48 + (Int.tmod x0_1 10))) % 256] : List Int)) (inner := [.int .u8 ((wrap64 (48 + (Int.tmod x0_1 10))) % 256)]) (ok := fun _ => True) (okp := fun _ => True) ?hr ?hp (fun _ hk => hk) trivial (Below.refl _ _) (Nat.le_refl _) (by simp) ?_; (case hd => rfl); (case hg => rfl); (case hr => first | (go_simp; done) | (go_simp; rfl)); (case hp => exact (Reps.one (show Kd.M (Kd.int .u8) _ _ _ ((wrap64 (48 + (Int.tmod x0_1 10))) % 256) [.int .u8 ((wrap64 (48 + (Int.tmod x0_1 10))) % 256)] from rfl) (Reps.none _ _))); intro v1005 w12 ho13 hb hg_ hnew_; clear hg_ hnew_; (first | rw [← Ny1004.out] at ho13 | (simp only [Int.reduceToNat] at ho13; rw [← Ny1004.out] at ho13)); have HO1006 := am_ (Kd.R_lower ho13 (below_size bl_)); replace HB := am_ (below_step bl_ hb); clear hb ho13; have hcv14 := own_string (P := Tryd.prog) Tryd.underlying67 Tryd.underlying5 Tryd.underlying9 (Kd.own_of_R HO1006.out)))
       go_roundg k1
       case measure => have := HK1.out; omega
       case rel => exact ⟨(wrap64 (Int.tdiv x0_1 10)), ((strOfNums y1004) ++ x3_1), rs_, rs_, H', ⟨by have := HK1.out; omega⟩, ⟨bl_⟩⟩
      ·rw [if_neg c11] at H
       exact absurd H (by simp)

/-! ### spec_l4Text: function 33 -/
mutual
def spec_l4Text.l0 : Nat → ByteArray → List ByteArray → Int → Int → Int → List ByteArray → ByteArray → ByteArray → ByteArray → ByteArray → Int → Option (ByteArray)
 | 0, _, _, _, _, _, _, _, _, _, _, _ => none
 | k + 1, x3, x12, x13, x14, x1002000, x1002001, x1002002, x1002003, x1002004, x1002005, x1002006 => if x14 < x13 then (if 0 ≤ x14 then (if x14 < (x12.length : Int) then (if x14 = 0 then (if x3.size + 6 ≤ 9223372036854775807 then (if (x3 ++ (⟨#[32, 102, 114, 111, 109, 32]⟩ : ByteArray)).size + (rdOf ByteArray.empty x12 x14).size ≤ 9223372036854775807 then (spec_l4Text.l0 k ((x3 ++ (⟨#[32, 102, 114, 111, 109, 32]⟩ : ByteArray)) ++ (rdOf ByteArray.empty x12 x14)) x12 x13 (wrap64 (x14 + 1)) x1002000 x1002001 x1002002 x1002003 x1002004 x1002005 x1002006) else (none)) else (none)) else (if x3.size + 1 ≤ 9223372036854775807 then (if (x3 ++ (⟨#[44]⟩ : ByteArray)).size + (rdOf ByteArray.empty x12 x14).size ≤ 9223372036854775807 then (spec_l4Text.l0 k ((x3 ++ (⟨#[44]⟩ : ByteArray)) ++ (rdOf ByteArray.empty x12 x14)) x12 x13 (wrap64 (x14 + 1)) x1002000 x1002001 x1002002 x1002003 x1002004 x1002005 x1002006) else (none)) else (none))) else (none)) else (none)) else (if x1002002.toList = ([] : List UInt8) then (spec_l4Text.j1 k x3 x1002000 x1002001 x1002002 x1002003 x1002004 x1002005 x1002006) else ((spec_l2Quoted.f k x1002002).bind fun t1007 => (if 5 + t1007.size ≤ 9223372036854775807 then (if x3.size + ((⟨#[32, 115, 101, 112, 32]⟩ : ByteArray) ++ t1007).size ≤ 9223372036854775807 then (spec_l4Text.j1 k (x3 ++ ((⟨#[32, 115, 101, 112, 32]⟩ : ByteArray) ++ t1007)) x1002000 x1002001 x1002002 x1002003 x1002004 x1002005 x1002006) else (none)) else (none))))
def spec_l4Text.j1 : Nat → ByteArray → Int → List ByteArray → ByteArray → ByteArray → ByteArray → ByteArray → Int → Option (ByteArray)
 | 0, _, _, _, _, _, _, _, _ => none
 | k + 1, x3, x1002000, x1002001, x1002002, x1002003, x1002004, x1002005, x1002006 => if x1002003.toList = ([] : List UInt8) then (spec_l4Text.j2 k x3 x1002000 x1002001 x1002002 x1002003 x1002004 x1002005 x1002006) else ((spec_l2Quoted.f k x1002003).bind fun t1008 => (if 6 + t1008.size ≤ 9223372036854775807 then (if x3.size + ((⟨#[32, 108, 105, 107, 101, 32]⟩ : ByteArray) ++ t1008).size ≤ 9223372036854775807 then (spec_l4Text.j2 k (x3 ++ ((⟨#[32, 108, 105, 107, 101, 32]⟩ : ByteArray) ++ t1008)) x1002000 x1002001 x1002002 x1002003 x1002004 x1002005 x1002006) else (none)) else (none)))
def spec_l4Text.j2 : Nat → ByteArray → Int → List ByteArray → ByteArray → ByteArray → ByteArray → ByteArray → Int → Option (ByteArray)
 | 0, _, _, _, _, _, _, _, _ => none
 | k + 1, x3, x1002000, x1002001, x1002002, x1002003, x1002004, x1002005, x1002006 => if x1002004.toList = ([] : List UInt8) then (spec_l4Text.j3 k x3 x1002000 x1002001 x1002002 x1002003 x1002004 x1002005 x1002006) else (if 4 + x1002004.size ≤ 9223372036854775807 then (if x3.size + ((⟨#[32, 116, 111, 32]⟩ : ByteArray) ++ x1002004).size ≤ 9223372036854775807 then (spec_l4Text.j3 k (x3 ++ ((⟨#[32, 116, 111, 32]⟩ : ByteArray) ++ x1002004)) x1002000 x1002001 x1002002 x1002003 x1002004 x1002005 x1002006) else (none)) else (none))
def spec_l4Text.j3 : Nat → ByteArray → Int → List ByteArray → ByteArray → ByteArray → ByteArray → ByteArray → Int → Option (ByteArray)
 | 0, _, _, _, _, _, _, _, _ => none
 | k + 1, x3, x1002000, x1002001, x1002002, x1002003, x1002004, x1002005, x1002006 => if x1002005.toList = ([] : List UInt8) then (if x1002006 = 0 then (some x3) else ((spec_l2Num.f k x1002006).bind fun t1009 => (if 4 + t1009.size ≤ 9223372036854775807 then (if x3.size + ((⟨#[32, 98, 121, 32]⟩ : ByteArray) ++ t1009).size ≤ 9223372036854775807 then (some (x3 ++ ((⟨#[32, 98, 121, 32]⟩ : ByteArray) ++ t1009))) else (none)) else (none)))) else ((spec_l2Quoted.f k x1002005).bind fun t1010 => (if 4 + t1010.size ≤ 9223372036854775807 then (if x3.size + ((⟨#[32, 97, 115, 32]⟩ : ByteArray) ++ t1010).size ≤ 9223372036854775807 then (if x1002006 = 0 then (some (x3 ++ ((⟨#[32, 97, 115, 32]⟩ : ByteArray) ++ t1010))) else ((spec_l2Num.f k x1002006).bind fun t1011 => (if 4 + t1011.size ≤ 9223372036854775807 then (if (x3 ++ ((⟨#[32, 97, 115, 32]⟩ : ByteArray) ++ t1010)).size + ((⟨#[32, 98, 121, 32]⟩ : ByteArray) ++ t1011).size ≤ 9223372036854775807 then (some ((x3 ++ ((⟨#[32, 97, 115, 32]⟩ : ByteArray) ++ t1010)) ++ ((⟨#[32, 98, 121, 32]⟩ : ByteArray) ++ t1011))) else (none)) else (none)))) else (none)) else (none)))
end
def spec_l4Text.f (k : Nat) (a0_0 : Int) (l0_1 : List ByteArray) (a0_2 : ByteArray) (a0_3 : ByteArray) (a0_4 : ByteArray) (a0_5 : ByteArray) (a0_6 : Int) : Option (ByteArray) := (spec_l4Words.f).bind fun t1002 => (if 0 ≤ a0_0 then (if a0_0 < (t1002.length : Int) then (spec_l4Text.l0 k (rdOf ByteArray.empty t1002 a0_0) l0_1 (l0_1.length : Int) 0 a0_0 l0_1 a0_2 a0_3 a0_4 a0_5 a0_6) else (none)) else (none))
theorem spec_l4Text.mono_l : ∀ k, (∀ y0 y1 y2 y3 y4 y5 y6 y7 y8 y9 y10, LeO (spec_l4Text.l0 k y0 y1 y2 y3 y4 y5 y6 y7 y8 y9 y10) (spec_l4Text.l0 (k + 1) y0 y1 y2 y3 y4 y5 y6 y7 y8 y9 y10)) ∧ (∀ y0 y1 y2 y3 y4 y5 y6 y7, LeO (spec_l4Text.j1 k y0 y1 y2 y3 y4 y5 y6 y7) (spec_l4Text.j1 (k + 1) y0 y1 y2 y3 y4 y5 y6 y7)) ∧ (∀ y0 y1 y2 y3 y4 y5 y6 y7, LeO (spec_l4Text.j2 k y0 y1 y2 y3 y4 y5 y6 y7) (spec_l4Text.j2 (k + 1) y0 y1 y2 y3 y4 y5 y6 y7)) ∧ (∀ y0 y1 y2 y3 y4 y5 y6 y7, LeO (spec_l4Text.j3 k y0 y1 y2 y3 y4 y5 y6 y7) (spec_l4Text.j3 (k + 1) y0 y1 y2 y3 y4 y5 y6 y7))
 | 0 => ⟨fun _ _ _ _ _ _ _ _ _ _ _ r h => by simp [spec_l4Text.l0] at h, fun _ _ _ _ _ _ _ _ r h => by simp [spec_l4Text.j1] at h, fun _ _ _ _ _ _ _ _ r h => by simp [spec_l4Text.j2] at h, fun _ _ _ _ _ _ _ _ r h => by simp [spec_l4Text.j3] at h⟩
 | k + 1 => by
  obtain ⟨ih0, ih1, ih2, ih3⟩ := spec_l4Text.mono_l k
  refine ⟨?_, ?_, ?_, ?_⟩
  ·intro y0 y1 y2 y3 y4 y5 y6 y7 y8 y9 y10
   unfold spec_l4Text.l0
   repeat' first
   | with_reducible first | exact ih0 _ _ _ _ _ _ _ _ _ _ _ | exact ih1 _ _ _ _ _ _ _ _ | exact ih2 _ _ _ _ _ _ _ _ | exact ih3 _ _ _ _ _ _ _ _ | exact spec_l2Num.mono _ _ | exact spec_l2Quoted.mono _ _ | exact LeO.refl _ | exact LeO.none _ | refine LeO.ite ?_ ?_ | refine LeO.bind ?_ (fun _ => ?_)
   | exact ih0 _ _ _ _ _ _ _ _ _ _ _
   | exact ih1 _ _ _ _ _ _ _ _
   | exact ih2 _ _ _ _ _ _ _ _
   | exact ih3 _ _ _ _ _ _ _ _
   | exact spec_l2Num.mono _ _
   | exact spec_l2Quoted.mono _ _
   | exact LeO.none _
   | refine LeO.ite ?_ ?_
   | refine LeO.bind ?_ (fun _ => ?_)
  ·intro y0 y1 y2 y3 y4 y5 y6 y7
   unfold spec_l4Text.j1
   repeat' first
   | with_reducible first | exact ih0 _ _ _ _ _ _ _ _ _ _ _ | exact ih1 _ _ _ _ _ _ _ _ | exact ih2 _ _ _ _ _ _ _ _ | exact ih3 _ _ _ _ _ _ _ _ | exact spec_l2Num.mono _ _ | exact spec_l2Quoted.mono _ _ | exact LeO.refl _ | exact LeO.none _ | refine LeO.ite ?_ ?_ | refine LeO.bind ?_ (fun _ => ?_)
   | exact ih0 _ _ _ _ _ _ _ _ _ _ _
   | exact ih1 _ _ _ _ _ _ _ _
   | exact ih2 _ _ _ _ _ _ _ _
   | exact ih3 _ _ _ _ _ _ _ _
   | exact spec_l2Num.mono _ _
   | exact spec_l2Quoted.mono _ _
   | exact LeO.none _
   | refine LeO.ite ?_ ?_
   | refine LeO.bind ?_ (fun _ => ?_)
  ·intro y0 y1 y2 y3 y4 y5 y6 y7
   unfold spec_l4Text.j2
   repeat' first
   | with_reducible first | exact ih0 _ _ _ _ _ _ _ _ _ _ _ | exact ih1 _ _ _ _ _ _ _ _ | exact ih2 _ _ _ _ _ _ _ _ | exact ih3 _ _ _ _ _ _ _ _ | exact spec_l2Num.mono _ _ | exact spec_l2Quoted.mono _ _ | exact LeO.refl _ | exact LeO.none _ | refine LeO.ite ?_ ?_ | refine LeO.bind ?_ (fun _ => ?_)
   | exact ih0 _ _ _ _ _ _ _ _ _ _ _
   | exact ih1 _ _ _ _ _ _ _ _
   | exact ih2 _ _ _ _ _ _ _ _
   | exact ih3 _ _ _ _ _ _ _ _
   | exact spec_l2Num.mono _ _
   | exact spec_l2Quoted.mono _ _
   | exact LeO.none _
   | refine LeO.ite ?_ ?_
   | refine LeO.bind ?_ (fun _ => ?_)
  ·intro y0 y1 y2 y3 y4 y5 y6 y7
   unfold spec_l4Text.j3
   repeat' first
   | with_reducible first | exact ih0 _ _ _ _ _ _ _ _ _ _ _ | exact ih1 _ _ _ _ _ _ _ _ | exact ih2 _ _ _ _ _ _ _ _ | exact ih3 _ _ _ _ _ _ _ _ | exact spec_l2Num.mono _ _ | exact spec_l2Quoted.mono _ _ | exact LeO.refl _ | exact LeO.none _ | refine LeO.ite ?_ ?_ | refine LeO.bind ?_ (fun _ => ?_)
   | exact ih0 _ _ _ _ _ _ _ _ _ _ _
   | exact ih1 _ _ _ _ _ _ _ _
   | exact ih2 _ _ _ _ _ _ _ _
   | exact ih3 _ _ _ _ _ _ _ _
   | exact spec_l2Num.mono _ _
   | exact spec_l2Quoted.mono _ _
   | exact LeO.none _
   | refine LeO.ite ?_ ?_
   | refine LeO.bind ?_ (fun _ => ?_)
theorem spec_l4Text.mono : ∀ a0 a1 a2 a3 a4 a5 a6 k, LeO (spec_l4Text.f k a0 a1 a2 a3 a4 a5 a6) (spec_l4Text.f (k + 1) a0 a1 a2 a3 a4 a5 a6) := by
 intro a0 a1 a2 a3 a4 a5 a6 k
 obtain ⟨ih0, ih1, ih2, ih3⟩ := spec_l4Text.mono_l k
 unfold spec_l4Text.f
 repeat' first
   | with_reducible first | exact ih0 _ _ _ _ _ _ _ _ _ _ _ | exact ih1 _ _ _ _ _ _ _ _ | exact ih2 _ _ _ _ _ _ _ _ | exact ih3 _ _ _ _ _ _ _ _ | exact spec_l2Num.mono _ _ | exact spec_l2Quoted.mono _ _ | exact LeO.refl _ | exact LeO.none _ | refine LeO.ite ?_ ?_ | refine LeO.bind ?_ (fun _ => ?_)
   | exact ih0 _ _ _ _ _ _ _ _ _ _ _
   | exact ih1 _ _ _ _ _ _ _ _
   | exact ih2 _ _ _ _ _ _ _ _
   | exact ih3 _ _ _ _ _ _ _ _
   | exact spec_l2Num.mono _ _
   | exact spec_l2Quoted.mono _ _
   | exact LeO.none _
   | refine LeO.ite ?_ ?_
   | refine LeO.bind ?_ (fun _ => ?_)
set_option maxHeartbeats 8000000 in
set_option maxRecDepth 100000 in
theorem spec_l4Text.calls (k : Nat) (a0_0 : Int) (A0_1 : Option Addr) (c0_1 : Nat) (l0_1 : List ByteArray) (a0_2 : ByteArray) (a0_3 : ByteArray) (a0_4 : ByteArray) (a0_5 : ByteArray) (a0_6 : Int) (r : ByteArray) (w : World) (hr0_1 : Kd.C Kd.string w A0_1 l0_1.length l0_1) (hc0_1 : l0_1.length ≤ c0_1) (h : spec_l4Text.f k a0_0 l0_1 a0_2 a0_3 a0_4 a0_5 a0_6 = some r) :
  Calls Tryd.prog 33 #[.agg #[.int .i64 a0_0, .slice A0_1 l0_1.length c0_1, .string a0_2, .string a0_3, .string a0_4, .string a0_5, .int .i64 a0_6]] w fun e w' => e = .returned (.string r) ∧ Below w.heap.size w w' := by
 have hu38 := Tryd.underlying38
 have HR0_1 := am_ hr0_1
 have HC0_1 := am_ hc0_1
 clear hr0_1 hc0_1
 have HB := am_ (Below.refl w.heap.size w)
 have H : ((spec_l4Words.f).bind fun t1002 => (if 0 ≤ a0_0 then (if a0_0 < (t1002.length : Int) then (spec_l4Text.l0 k (rdOf ByteArray.empty t1002 a0_0) l0_1 (l0_1.length : Int) 0 a0_0 l0_1 a0_2 a0_3 a0_4 a0_5 a0_6) else (none)) else (none))) = some r := h
 clear h
 replace H := Option.bind_eq_some_iff.mp H
 obtain ⟨t1002, A20, H⟩ := H
 replace H : (if 0 ≤ a0_0 then (if a0_0 < (t1002.length : Int) then (spec_l4Text.l0 k (rdOf ByteArray.empty t1002 a0_0) l0_1 (l0_1.length : Int) 0 a0_0 l0_1 a0_2 a0_3 a0_4 a0_5 a0_6) else (none)) else (none)) = some r := H
 have A2 := am_ A20
 clear A20
 by_cases c3 : 0 ≤ a0_0
 ·rw [if_pos c3] at H
  have c3b0 : decide (0 ≤ a0_0) = true := decide_eq_true c3
  clear c3
  by_cases c4 : a0_0 < (t1002.length : Int)
  ·rw [if_pos c4] at H
   have c4b0 : decide (a0_0 < (t1002.length : Int)) = true := decide_eq_true c4
   clear c4
   have H' := am_ H
   clear H
   go_enter Tryd.func33, Tryd.ntmps33
   try go_wp2_with (first | ((with_reducible refine gate_dst (N := 1) rfl ?_); refine bx_ 1 #[.int .i64 a0_0, .slice A0_1 l0_1.length c0_1, .string a0_2, .string a0_3, .string a0_4, .string a0_5, .int .i64 a0_6] 38 ?_; intro gb1001 hg w5 hbox hb; have BK1001 := am_ (hbox); have GW1001 := am_ (gs_ hg : w.heap.size ≤ gb1001); replace HB := am_ (below_step bl_ hb); have GE1001 := GW1001; clear hb hbox hg))
   have n0_ := am_ (blk_drew BK1001.out)
   have n1_ := am_ (below_drew1 HB.out)
   clear BK1001
   clear HB
   have BK1001 := n0_
   have HB := n1_
   clear n0_ n1_
   refine start_ (n := 6) (S := fun w' => w'.cell? ⟨gb1001, 0, none⟩ = some (.int .i64 a0_0) ∧ w'.cell? ⟨gb1001, 1, none⟩ = some (.slice A0_1 l0_1.length c0_1) ∧ w'.cell? ⟨gb1001, 2, none⟩ = some (.string a0_2) ∧ w'.cell? ⟨gb1001, 3, none⟩ = some (.string a0_3) ∧ w'.cell? ⟨gb1001, 4, none⟩ = some (.string a0_4) ∧ w'.cell? ⟨gb1001, 5, none⟩ = some (.string a0_5) ∧ w'.cell? ⟨gb1001, 6, none⟩ = some (.int .i64 a0_6)) (ds := []) (bz 6 0) (by kernel_rfl) rfl rfl ⟨(blk_cell BK1001.out 0).trans rfl, (blk_cell BK1001.out 1).trans rfl, (blk_cell BK1001.out 2).trans rfl, (blk_cell BK1001.out 3).trans rfl, (blk_cell BK1001.out 4).trans rfl, (blk_cell BK1001.out 5).trans rfl, (blk_cell BK1001.out 6).trans rfl⟩ (fun hHeld => ?_)
   generalize w5.drew = w6 at BK1001 HB hHeld ⊢
   refine pure_ (i := 1) (N := some 7) (v := ?_) (a' := ?_) (bz 6 2) rfl rfl (by kernel_rfl) (fun _ _ _ h => h) (Or.inl ⟨by rfl, ?_⟩) ?_ ?_
   rotate_left
   ·intro w'
    go_simp
    with_reducible rfl
   rotate_left
   ·simp only [Act.put, List.setIfInBounds_toArray, List.set_cons_zero, List.set_cons_succ, i64_w, i32_w]
    rfl
   refine take_ (i := 2) (N := some 8) (v := ?_) (a' := ?_) (bz 6 6) rfl rfl (by kernel_rfl) (fun _ _ _ h => h) (Or.inl ⟨by rfl, ?_⟩) hHeld ?_ ?_
   rotate_left
   ·rintro w' ⟨s0, s1, s2, s3, s4, s5, s6⟩
    go_simp
    with_reducible rfl
   rotate_left
   ·simp only [Act.put, List.setIfInBounds_toArray, List.set_cons_zero, List.set_cons_succ, i64_w, i32_w]
    rfl
   refine one_ (i := 0) (N := some 6) (bz 6 7) rfl rfl (by kernel_rfl) (by decide) (fun K hK => ?_)
   refine goes_ Tryd.func57 (by kernel_rfl) rfl #[] (by rfl) rfl rfl ag_ ?_
   with_reducible refine (spec_l4Words.calls  t1002 _ A2.out).mono ?_
   rintro e w7 ⟨v1003, rfl, ho0, hb⟩

   refine ⟨_, rfl, ?_⟩
   have n0_ := am_ (Kd.R_lower ho0 (below_size bg_))
   have n1_ := am_ (blk_below (g := gb1001) (vk_ BK1001) hb)
   have n2_ := am_ (below_step bg_ hb)
   clear BK1001
   clear HB
   have HO1004 := n0_
   have BK1001 := n1_
   have HB := n2_
   clear n0_ n1_ n2_
   (try clear hb)
   (try clear hb2)
   (try clear hk)
   (try clear hi)
   (try clear ho0)
   obtain ⟨Ao8, co8, eo8⟩ := Kd.R_slice HO1004.out
   (first | subst eo8 | (injection eo8 with f1_ f2_ f3_; have f4_ := f1_.symm; have f5_ := f3_.symm; clear f1_ f2_ f3_; subst f4_; subst f5_))
   have p1005 : 0 ≤ (a0_0 : Int) := od_
   have q1005 : a0_0 < (t1002.length : Int) := od_
   obtain ⟨ad1005, e1005, hx1005_0⟩ := Kd.at_string (Kd.R_reads' HO1004.out).2.2 a0_0 p1005 q1005
   cases e1005
   replace p1005 := eq_true p1005
   replace q1005 := eq_true q1005
   refine hK.out _ _ ⟨(blk_cell BK1001.out 0).trans rfl, (blk_cell BK1001.out 1).trans rfl, (blk_cell BK1001.out 2).trans rfl, (blk_cell BK1001.out 3).trans rfl, (blk_cell BK1001.out 4).trans rfl, (blk_cell BK1001.out 5).trans rfl, (blk_cell BK1001.out 6).trans rfl⟩ (fun hHeld => ?_)
   refine more_ (S2 := fun w' => w'.cell? ⟨gb1001, 0, none⟩ = some (.int .i64 a0_0) ∧ w'.cell? ⟨gb1001, 1, none⟩ = some (.slice A0_1 l0_1.length c0_1) ∧ w'.cell? ⟨gb1001, 2, none⟩ = some (.string a0_2) ∧ w'.cell? ⟨gb1001, 3, none⟩ = some (.string a0_3) ∧ w'.cell? ⟨gb1001, 4, none⟩ = some (.string a0_4) ∧ w'.cell? ⟨gb1001, 5, none⟩ = some (.string a0_5) ∧ w'.cell? ⟨gb1001, 6, none⟩ = some (.int .i64 a0_6) ∧ w'.cell? (ad1005.add (a0_0).toNat) = some (.string (rdOf ByteArray.empty t1002 a0_0))) (fun _ hs_ => ⟨hs_.1, hs_.2.1, hs_.2.2.1, hs_.2.2.2.1, hs_.2.2.2.2.1, hs_.2.2.2.2.2.1, hs_.2.2.2.2.2.2.1⟩) ⟨hHeld.1, hHeld.2.1, hHeld.2.2.1, hHeld.2.2.2.1, hHeld.2.2.2.2.1, hHeld.2.2.2.2.2.1, hHeld.2.2.2.2.2.2, hx1005_0⟩ (fun hHeld => ?_)
   clear hK K
   refine norm_ (a' := ?_) ?_ ?_
   rotate_left
   ·show Act.put _ (some 6) _ = _
    simp only [Act.put, List.setIfInBounds_toArray, List.set_cons_zero, List.set_cons_succ, i64_w, i32_w]
    rfl
   refine pure_ (i := 3) (N := some 9) (v := ?_) (a' := ?_) (bz 6 15) rfl rfl (by kernel_rfl) (fun _ _ _ h => h) (Or.inl ⟨by rfl, ?_⟩) ?_ ?_
   rotate_left
   ·intro w'
    go_simp
    with_reducible rfl
   rotate_left
   ·simp only [Act.put, List.setIfInBounds_toArray, List.set_cons_zero, List.set_cons_succ, i64_w, i32_w]
    rfl
   refine take_ (i := 4) (N := some 10) (v := ?_) (a' := ?_) (bz 6 31) rfl rfl (by kernel_rfl) (fun _ _ _ h => h) (Or.inl ⟨by rfl, ?_⟩) hHeld ?_ ?_
   rotate_left
   ·rintro w' ⟨s0, s1, s2, s3, s4, s5, s6, s7⟩
    go_simp
    with_reducible rfl
   rotate_left
   ·simp only [Act.put, List.setIfInBounds_toArray, List.set_cons_zero, List.set_cons_succ, i64_w, i32_w]
    rfl
   refine pure_ (i := 5) (N := some 3) (v := ?_) (a' := ?_) (bz 6 63) rfl rfl (by kernel_rfl) (fun _ _ _ h => h) (Or.inl ⟨by rfl, ?_⟩) ?_ ?_
   rotate_left
   ·intro w'
    go_simp
    with_reducible rfl
   rotate_left
   ·simp only [Act.put, List.setIfInBounds_toArray, List.set_cons_zero, List.set_cons_succ, i64_w, i32_w]
    rfl
   refine done_ (by kernel_rfl) ?_
   have hcz9_0 : w7.cell? ⟨gb1001, 0, none⟩ = some (.int .i64 a0_0) := (blk_cell BK1001.out 0).trans rfl
   have hcz9_1 : w7.cell? ⟨gb1001, 1, none⟩ = some (.slice A0_1 l0_1.length c0_1) := (blk_cell BK1001.out 1).trans rfl
   have hcz9_2 : w7.cell? ⟨gb1001, 2, none⟩ = some (.string a0_2) := (blk_cell BK1001.out 2).trans rfl
   have hcz9_3 : w7.cell? ⟨gb1001, 3, none⟩ = some (.string a0_3) := (blk_cell BK1001.out 3).trans rfl
   have hcz9_4 : w7.cell? ⟨gb1001, 4, none⟩ = some (.string a0_4) := (blk_cell BK1001.out 4).trans rfl
   have hcz9_5 : w7.cell? ⟨gb1001, 5, none⟩ = some (.string a0_5) := (blk_cell BK1001.out 5).trans rfl
   have hcz9_6 : w7.cell? ⟨gb1001, 6, none⟩ = some (.int .i64 a0_6) := (blk_cell BK1001.out 6).trans rfl
   have hfz9_0 := bf_ BK1001 0
   have hfz9_1 := bf_ BK1001 1
   have hfz9_2 := bf_ BK1001 2
   have hfz9_3 := bf_ BK1001 3
   have hfz9_4 := bf_ BK1001 4
   have hfz9_5 := bf_ BK1001 5
   have hfz9_6 := bf_ BK1001 6
   try go_wp2
   go_loopg [3, 14] k (fun kq v3 v14 w' => ∃ (x3_1 : ByteArray) (x14_1 : Int), v3 = .string x3_1 ∧ v14 = .int .i64 x14_1 ∧ Aside0 (spec_l4Text.l0 kq x3_1 l0_1 (l0_1.length : Int) x14_1 a0_0 l0_1 a0_2 a0_3 a0_4 a0_5 a0_6 = some r) ∧ Aside0 (kq ≤ k) ∧ Aside0 (w'.heap[gb1001]? = some (.cells #[.int .i64 a0_0, (.slice A0_1 l0_1.length c0_1), .string a0_2, .string a0_3, .string a0_4, .string a0_5, .int .i64 a0_6] 38 (0, 0))) ∧ Aside0 (Below w.heap.size w w'))
   case atStart => exact ⟨(rdOf ByteArray.empty t1002 a0_0), (0), rs_, rs_, H', ⟨Nat.le_refl _⟩, ⟨vk_ BK1001⟩, ⟨bg_⟩⟩
   case round =>
    clear H'
    try clear p1
    try clear q1
    try clear hx1
    try clear p2
    try clear c3
    try clear c3b0
    try clear c4
    try clear c4b0
    try clear c5
    try clear hcz9_0
    try clear hcz9_1
    try clear hcz9_2
    try clear hcz9_3
    try clear hcz9_4
    try clear hcz9_5
    try clear hcz9_6
    try clear hfz9_0
    try clear hfz9_1
    try clear hfz9_2
    try clear hfz9_3
    try clear hfz9_4
    try clear hfz9_5
    try clear hfz9_6
    try clear hx1005_0
    try clear p1005
    try clear q1005
    obtain ⟨x3_1, x14_1, rfl, rfl, HA, HK1, BK1001, HB⟩ := hrel
    cases gk with
    | zero => exact absurd HA.out (by simp [spec_l4Text.l0])
    | succ k1 =>
     have H := HA.out
     clear HA
     simp only [spec_l4Text.l0] at H
     by_cases c10 : x14_1 < (l0_1.length : Int)
     ·rw [if_pos c10] at H
      have c10b0 : decide (x14_1 < (l0_1.length : Int)) = true := decide_eq_true c10
      clear c10
      by_cases c11 : 0 ≤ x14_1
      ·rw [if_pos c11] at H
       have c11b0 : decide (0 ≤ x14_1) = true := decide_eq_true c11
       clear c11
       by_cases c12 : x14_1 < (l0_1.length : Int)
       ·rw [if_pos c12] at H
        have c12b0 : decide (x14_1 < (l0_1.length : Int)) = true := decide_eq_true c12
        clear c12
        by_cases c13 : x14_1 = 0
        ·rw [if_pos c13] at H
         have c13b0 : (x14_1 == 0) = true := beq_iff_eq.mpr c13
         have c13b1 : (x14_1 != 0) = false := bne_eq_false_iff_eq.mpr c13
         clear c13
         by_cases c14 : x3_1.size + 6 ≤ 9223372036854775807
         ·rw [if_pos c14] at H
          have c14b0 := eq_true c14
          have c14b1 : decide (x3_1.size + 6 ≤ 9223372036854775807) = true := decide_eq_true c14
          try have c14b2 : (9223372036854775807 < x3_1.size + 6) = False := eq_false (Nat.not_lt.2 c14)
          by_cases c15 : (x3_1 ++ (⟨#[32, 102, 114, 111, 109, 32]⟩ : ByteArray)).size + (rdOf ByteArray.empty l0_1 x14_1).size ≤ 9223372036854775807
          ·rw [if_pos c15] at H
           have c15b0 := eq_true c15
           have c15b1 : decide ((x3_1 ++ (⟨#[32, 102, 114, 111, 109, 32]⟩ : ByteArray)).size + (rdOf ByteArray.empty l0_1 x14_1).size ≤ 9223372036854775807) = true := decide_eq_true c15
           try have c15b2 : (9223372036854775807 < (x3_1 ++ (⟨#[32, 102, 114, 111, 109, 32]⟩ : ByteArray)).size + (rdOf ByteArray.empty l0_1 x14_1).size) = False := eq_false (Nat.not_lt.2 c15)
           try (have c15b3 := c15b2; simp only [ByteArray.size_append, sz_mk_, List.size_toArray, List.length_cons, List.length_nil, Nat.reduceAdd] at c15b3)
           have H' := am_ H
           clear H
           have p1006 : 0 ≤ (x14_1 : Int) := od_
           have q1006 : x14_1 < (l0_1.length : Int) := od_
           obtain ⟨ad1006, e1006, hx1006_0⟩ := Kd.at_string HR0_1.out x14_1 p1006 q1006
           cases e1006
           replace hx1006_0 := kp_ HB hx1006_0
           replace p1006 := eq_true p1006
           replace q1006 := eq_true q1006
           go_wp2
           go_roundg k1
           case measure => have := HK1.out; omega
           case rel => exact ⟨((x3_1 ++ (⟨#[32, 102, 114, 111, 109, 32]⟩ : ByteArray)) ++ (rdOf ByteArray.empty l0_1 x14_1)), (wrap64 (x14_1 + 1)), rs_, rs_, H', ⟨by have := HK1.out; omega⟩, ⟨vk_ BK1001⟩, ⟨bg_⟩⟩
          ·rw [if_neg c15] at H
           exact absurd H (by simp)
         ·rw [if_neg c14] at H
          exact absurd H (by simp)
        ·rw [if_neg c13] at H
         have c13b0 : (x14_1 == 0) = false := beq_eq_false_iff_ne.mpr c13
         have c13b1 : (x14_1 != 0) = true := bne_iff_ne.mpr c13
         by_cases c16 : x3_1.size + 1 ≤ 9223372036854775807
         ·rw [if_pos c16] at H
          have c16b0 := eq_true c16
          have c16b1 : decide (x3_1.size + 1 ≤ 9223372036854775807) = true := decide_eq_true c16
          try have c16b2 : (9223372036854775807 < x3_1.size + 1) = False := eq_false (Nat.not_lt.2 c16)
          by_cases c17 : (x3_1 ++ (⟨#[44]⟩ : ByteArray)).size + (rdOf ByteArray.empty l0_1 x14_1).size ≤ 9223372036854775807
          ·rw [if_pos c17] at H
           have c17b0 := eq_true c17
           have c17b1 : decide ((x3_1 ++ (⟨#[44]⟩ : ByteArray)).size + (rdOf ByteArray.empty l0_1 x14_1).size ≤ 9223372036854775807) = true := decide_eq_true c17
           try have c17b2 : (9223372036854775807 < (x3_1 ++ (⟨#[44]⟩ : ByteArray)).size + (rdOf ByteArray.empty l0_1 x14_1).size) = False := eq_false (Nat.not_lt.2 c17)
           try (have c17b3 := c17b2; simp only [ByteArray.size_append, sz_mk_, List.size_toArray, List.length_cons, List.length_nil, Nat.reduceAdd] at c17b3)
           have H' := am_ H
           clear H
           have p1006 : 0 ≤ (x14_1 : Int) := od_
           have q1006 : x14_1 < (l0_1.length : Int) := od_
           obtain ⟨ad1006, e1006, hx1006_0⟩ := Kd.at_string HR0_1.out x14_1 p1006 q1006
           cases e1006
           replace hx1006_0 := kp_ HB hx1006_0
           replace p1006 := eq_true p1006
           replace q1006 := eq_true q1006
           go_wp2
           go_roundg k1
           case measure => have := HK1.out; omega
           case rel => exact ⟨((x3_1 ++ (⟨#[44]⟩ : ByteArray)) ++ (rdOf ByteArray.empty l0_1 x14_1)), (wrap64 (x14_1 + 1)), rs_, rs_, H', ⟨by have := HK1.out; omega⟩, ⟨vk_ BK1001⟩, ⟨bg_⟩⟩
          ·rw [if_neg c17] at H
           exact absurd H (by simp)
         ·rw [if_neg c16] at H
          exact absurd H (by simp)
       ·rw [if_neg c12] at H
        exact absurd H (by simp)
      ·rw [if_neg c11] at H
       exact absurd H (by simp)
     ·rw [if_neg c10] at H
      have c10b0 : decide (x14_1 < (l0_1.length : Int)) = false := decide_eq_false c10
      clear c10
      have HC18 := am_ H
      clear H
      have hcz19_0 : wr.cell? ⟨gb1001, 0, none⟩ = some (.int .i64 a0_0) := (blk_cell BK1001.out 0).trans rfl
      have hcz19_1 : wr.cell? ⟨gb1001, 1, none⟩ = some (.slice A0_1 l0_1.length c0_1) := (blk_cell BK1001.out 1).trans rfl
      have hcz19_2 : wr.cell? ⟨gb1001, 2, none⟩ = some (.string a0_2) := (blk_cell BK1001.out 2).trans rfl
      have hcz19_3 : wr.cell? ⟨gb1001, 3, none⟩ = some (.string a0_3) := (blk_cell BK1001.out 3).trans rfl
      have hcz19_4 : wr.cell? ⟨gb1001, 4, none⟩ = some (.string a0_4) := (blk_cell BK1001.out 4).trans rfl
      have hcz19_5 : wr.cell? ⟨gb1001, 5, none⟩ = some (.string a0_5) := (blk_cell BK1001.out 5).trans rfl
      have hcz19_6 : wr.cell? ⟨gb1001, 6, none⟩ = some (.int .i64 a0_6) := (blk_cell BK1001.out 6).trans rfl
      have hfz19_0 := bf_ BK1001 0
      have hfz19_1 := bf_ BK1001 1
      have hfz19_2 := bf_ BK1001 2
      have hfz19_3 := bf_ BK1001 3
      have hfz19_4 := bf_ BK1001 4
      have hfz19_5 := bf_ BK1001 5
      have hfz19_6 := bf_ BK1001 6
      go_upto_if 31 with (fail)
      go_cut [3] (fun v3 wc => ∃ (kq : Nat) (x3_17 : ByteArray), v3 = .string x3_17 ∧ Aside0 (spec_l4Text.j1 kq x3_17 a0_0 l0_1 a0_2 a0_3 a0_4 a0_5 a0_6 = some r) ∧ Aside0 (kq ≤ k1) ∧ Aside0 (wc.heap[gb1001]? = some (.cells #[.int .i64 a0_0, (.slice A0_1 l0_1.length c0_1), .string a0_2, .string a0_3, .string a0_4, .string a0_5, .int .i64 a0_6] 38 (0, 0))) ∧ Aside0 (Below w.heap.size w wc))
      case first =>
       have H := HC18.out
       clear HC18
       by_cases c20 : a0_2.toList = ([] : List UInt8)
       ·rw [if_pos c20] at H
        have c20b0 : (a0_2.toList == ([] : List UInt8)) = true := beq_iff_eq.mpr c20
        have c20b1 : (a0_2.toList != ([] : List UInt8)) = false := bne_eq_false_iff_eq.mpr c20
        try (have c20b8 : a0_2.toList.isEmpty = true := by have e_ := c20b1; rw [Go.Proofs.YtknlgignjbghkaaDoor.Gt.nil_bne] at e_; simpa using e_)
        clear c20
        (first | rw [c20b0] | (simp only [i64_w, i32_w]; rw [c20b0]) | (rw [c20b8]; simp only [Bool.not_true, Bool.not_false]) | skip)
        have H' := am_ H
        clear H
        go_wp2
        go_meet
        case rel => exact ⟨_, (x3_1), rs_, H', ⟨by have := HK1.out; first | omega | exact Nat.le_refl _⟩, ⟨vk_ BK1001⟩, ⟨bg_⟩⟩
       ·rw [if_neg c20] at H
        have c20b0 : (a0_2.toList == ([] : List UInt8)) = false := beq_eq_false_iff_ne.mpr c20
        have c20b1 : (a0_2.toList != ([] : List UInt8)) = true := bne_iff_ne.mpr c20
        try (have c20b8 : a0_2.toList.isEmpty = false := by have e_ := c20b1; rw [Go.Proofs.YtknlgignjbghkaaDoor.Gt.nil_bne] at e_; simpa using e_)
        (first | rw [c20b0] | (simp only [i64_w, i32_w]; rw [c20b0]) | (rw [c20b8]; simp only [Bool.not_true, Bool.not_false]) | skip)
        replace H := Option.bind_eq_some_iff.mp H
        obtain ⟨t1007, A210, H⟩ := H
        replace H : (if 5 + t1007.size ≤ 9223372036854775807 then (if x3_1.size + ((⟨#[32, 115, 101, 112, 32]⟩ : ByteArray) ++ t1007).size ≤ 9223372036854775807 then (spec_l4Text.j1 k1 (x3_1 ++ ((⟨#[32, 115, 101, 112, 32]⟩ : ByteArray) ++ t1007)) a0_0 l0_1 a0_2 a0_3 a0_4 a0_5 a0_6) else (none)) else (none)) = some r := H
        have A21 := am_ A210
        clear A210
        by_cases c22 : 5 + t1007.size ≤ 9223372036854775807
        ·rw [if_pos c22] at H
         have c22b0 := eq_true c22
         have c22b1 : decide (5 + t1007.size ≤ 9223372036854775807) = true := decide_eq_true c22
         try have c22b2 : (9223372036854775807 < 5 + t1007.size) = False := eq_false (Nat.not_lt.2 c22)
         by_cases c23 : x3_1.size + ((⟨#[32, 115, 101, 112, 32]⟩ : ByteArray) ++ t1007).size ≤ 9223372036854775807
         ·rw [if_pos c23] at H
          have c23b0 := eq_true c23
          have c23b1 : decide (x3_1.size + ((⟨#[32, 115, 101, 112, 32]⟩ : ByteArray) ++ t1007).size ≤ 9223372036854775807) = true := decide_eq_true c23
          try have c23b2 : (9223372036854775807 < x3_1.size + ((⟨#[32, 115, 101, 112, 32]⟩ : ByteArray) ++ t1007).size) = False := eq_false (Nat.not_lt.2 c23)
          try (have c23b3 := c23b2; simp only [ByteArray.size_append, sz_mk_, List.size_toArray, List.length_cons, List.length_nil, Nat.reduceAdd] at c23b3)
          have H' := am_ H
          clear H
          have hcz24_0 : wr.cell? ⟨gb1001, 0, none⟩ = some (.int .i64 a0_0) := (blk_cell BK1001.out 0).trans rfl
          have hcz24_1 : wr.cell? ⟨gb1001, 1, none⟩ = some (.slice A0_1 l0_1.length c0_1) := (blk_cell BK1001.out 1).trans rfl
          have hcz24_2 : wr.cell? ⟨gb1001, 2, none⟩ = some (.string a0_2) := (blk_cell BK1001.out 2).trans rfl
          have hcz24_3 : wr.cell? ⟨gb1001, 3, none⟩ = some (.string a0_3) := (blk_cell BK1001.out 3).trans rfl
          have hcz24_4 : wr.cell? ⟨gb1001, 4, none⟩ = some (.string a0_4) := (blk_cell BK1001.out 4).trans rfl
          have hcz24_5 : wr.cell? ⟨gb1001, 5, none⟩ = some (.string a0_5) := (blk_cell BK1001.out 5).trans rfl
          have hcz24_6 : wr.cell? ⟨gb1001, 6, none⟩ = some (.int .i64 a0_6) := (blk_cell BK1001.out 6).trans rfl
          have hfz24_0 := bf_ BK1001 0
          have hfz24_1 := bf_ BK1001 1
          have hfz24_2 := bf_ BK1001 2
          have hfz24_3 := bf_ BK1001 3
          have hfz24_4 := bf_ BK1001 4
          have hfz24_5 := bf_ BK1001 5
          have hfz24_6 := bf_ BK1001 6
          go_wp2_with (first | ((with_reducible refine gate_callee (f := 43) rfl ?_); refine goesL_ (some 35) rfl rfl Tryd.func43 (by kernel_rfl) rfl #[.string a0_2] rfl ag_ ?_; (with_reducible refine (spec_l2Quoted.calls k1 a0_2 t1007 _ A21.out).mono ?_); rintro e w25 ⟨rfl, hb⟩; refine ⟨_, rfl, ?_⟩; replace BK1001 := am_ (blk_below (g := gb1001) (vk_ BK1001) hb); replace HB := am_ (below_step bg_ hb); (try clear hb); (try clear hb2); (try clear hk); (try clear hi)))
          go_meet
          case rel => exact ⟨_, (x3_1 ++ ((⟨#[32, 115, 101, 112, 32]⟩ : ByteArray) ++ t1007)), rs_, H', ⟨by have := HK1.out; first | omega | exact Nat.le_refl _⟩, ⟨vk_ BK1001⟩, ⟨bg_⟩⟩
         ·rw [if_neg c23] at H
          exact absurd H (by simp)
        ·rw [if_neg c22] at H
         exact absurd H (by simp)
      case rest =>
       clear HC18
       try clear c1
       try clear p1
       try clear q1
       try clear hx1
       try clear c2
       try clear p2
       try clear c3
       try clear c3b0
       try clear c4
       try clear c4b0
       try clear c5
       try clear p6
       try clear c10
       try clear c10b0
       try clear p10
       try clear q10
       try clear hx10
       try clear c11
       try clear c11b0
       try clear c12
       try clear c12b0
       try clear c13
       try clear c13b0
       try clear c13b1
       try clear c14
       try clear c14b0
       try clear c14b1
       try clear c14b2
       try clear c15
       try clear c15b0
       try clear c15b1
       try clear c15b2
       try clear c16
       try clear c16b0
       try clear c16b1
       try clear c16b2
       try clear c17
       try clear c17b0
       try clear c17b1
       try clear c17b2
       try clear c20
       try clear c20b0
       try clear c20b1
       try clear c22
       try clear c22b0
       try clear c22b1
       try clear c22b2
       try clear c23
       try clear c23b0
       try clear c23b1
       try clear c23b2
       try clear hcz19_0
       try clear hcz19_1
       try clear hcz19_2
       try clear hcz19_3
       try clear hcz19_4
       try clear hcz19_5
       try clear hcz19_6
       try clear hcz24_0
       try clear hcz24_1
       try clear hcz24_2
       try clear hcz24_3
       try clear hcz24_4
       try clear hcz24_5
       try clear hcz24_6
       try clear hcz9_0
       try clear hcz9_1
       try clear hcz9_2
       try clear hcz9_3
       try clear hcz9_4
       try clear hcz9_5
       try clear hcz9_6
       try clear hfz19_0
       try clear hfz19_1
       try clear hfz19_2
       try clear hfz19_3
       try clear hfz19_4
       try clear hfz19_5
       try clear hfz19_6
       try clear hfz24_0
       try clear hfz24_1
       try clear hfz24_2
       try clear hfz24_3
       try clear hfz24_4
       try clear hfz24_5
       try clear hfz24_6
       try clear hfz9_0
       try clear hfz9_1
       try clear hfz9_2
       try clear hfz9_3
       try clear hfz9_4
       try clear hfz9_5
       try clear hfz9_6
       try clear hx1005_0
       try clear hx1006_0
       try clear p1
       try clear p1005
       try clear p1006
       try clear p2
       try clear q1
       try clear q1005
       try clear q1006
       obtain ⟨kq, x3_17, rfl, HA, HJ17, BK1001, HB⟩ := hcut
       cases kq with
       | zero => exact absurd HA.out (by simp [spec_l4Text.j1])
       | succ kj17 =>
        have H := HA.out
        clear HA
        simp only [spec_l4Text.j1] at H
        have HC26 := am_ H
        clear H
        have hcz27_0 : wc.cell? ⟨gb1001, 0, none⟩ = some (.int .i64 a0_0) := (blk_cell BK1001.out 0).trans rfl
        have hcz27_1 : wc.cell? ⟨gb1001, 1, none⟩ = some (.slice A0_1 l0_1.length c0_1) := (blk_cell BK1001.out 1).trans rfl
        have hcz27_2 : wc.cell? ⟨gb1001, 2, none⟩ = some (.string a0_2) := (blk_cell BK1001.out 2).trans rfl
        have hcz27_3 : wc.cell? ⟨gb1001, 3, none⟩ = some (.string a0_3) := (blk_cell BK1001.out 3).trans rfl
        have hcz27_4 : wc.cell? ⟨gb1001, 4, none⟩ = some (.string a0_4) := (blk_cell BK1001.out 4).trans rfl
        have hcz27_5 : wc.cell? ⟨gb1001, 5, none⟩ = some (.string a0_5) := (blk_cell BK1001.out 5).trans rfl
        have hcz27_6 : wc.cell? ⟨gb1001, 6, none⟩ = some (.int .i64 a0_6) := (blk_cell BK1001.out 6).trans rfl
        have hfz27_0 := bf_ BK1001 0
        have hfz27_1 := bf_ BK1001 1
        have hfz27_2 := bf_ BK1001 2
        have hfz27_3 := bf_ BK1001 3
        have hfz27_4 := bf_ BK1001 4
        have hfz27_5 := bf_ BK1001 5
        have hfz27_6 := bf_ BK1001 6
        go_upto_if 40 with (fail)
        go_cut [3] (fun v3 wc => ∃ (kq : Nat) (x3_25 : ByteArray), v3 = .string x3_25 ∧ Aside0 (spec_l4Text.j2 kq x3_25 a0_0 l0_1 a0_2 a0_3 a0_4 a0_5 a0_6 = some r) ∧ Aside0 (kq ≤ kj17) ∧ Aside0 (wc.heap[gb1001]? = some (.cells #[.int .i64 a0_0, (.slice A0_1 l0_1.length c0_1), .string a0_2, .string a0_3, .string a0_4, .string a0_5, .int .i64 a0_6] 38 (0, 0))) ∧ Aside0 (Below w.heap.size w wc))
        case first =>
         have H := HC26.out
         clear HC26
         by_cases c28 : a0_3.toList = ([] : List UInt8)
         ·rw [if_pos c28] at H
          have c28b0 : (a0_3.toList == ([] : List UInt8)) = true := beq_iff_eq.mpr c28
          have c28b1 : (a0_3.toList != ([] : List UInt8)) = false := bne_eq_false_iff_eq.mpr c28
          try (have c28b8 : a0_3.toList.isEmpty = true := by have e_ := c28b1; rw [Go.Proofs.YtknlgignjbghkaaDoor.Gt.nil_bne] at e_; simpa using e_)
          clear c28
          (first | rw [c28b0] | (simp only [i64_w, i32_w]; rw [c28b0]) | (rw [c28b8]; simp only [Bool.not_true, Bool.not_false]) | skip)
          have H' := am_ H
          clear H
          go_wp2
          go_meet
          case rel => exact ⟨_, (x3_17), rs_, H', ⟨by have := HK1.out; have := HJ17.out; first | omega | exact Nat.le_refl _⟩, ⟨vk_ BK1001⟩, ⟨bg_⟩⟩
         ·rw [if_neg c28] at H
          have c28b0 : (a0_3.toList == ([] : List UInt8)) = false := beq_eq_false_iff_ne.mpr c28
          have c28b1 : (a0_3.toList != ([] : List UInt8)) = true := bne_iff_ne.mpr c28
          try (have c28b8 : a0_3.toList.isEmpty = false := by have e_ := c28b1; rw [Go.Proofs.YtknlgignjbghkaaDoor.Gt.nil_bne] at e_; simpa using e_)
          (first | rw [c28b0] | (simp only [i64_w, i32_w]; rw [c28b0]) | (rw [c28b8]; simp only [Bool.not_true, Bool.not_false]) | skip)
          replace H := Option.bind_eq_some_iff.mp H
          obtain ⟨t1008, A290, H⟩ := H
          replace H : (if 6 + t1008.size ≤ 9223372036854775807 then (if x3_17.size + ((⟨#[32, 108, 105, 107, 101, 32]⟩ : ByteArray) ++ t1008).size ≤ 9223372036854775807 then (spec_l4Text.j2 kj17 (x3_17 ++ ((⟨#[32, 108, 105, 107, 101, 32]⟩ : ByteArray) ++ t1008)) a0_0 l0_1 a0_2 a0_3 a0_4 a0_5 a0_6) else (none)) else (none)) = some r := H
          have A29 := am_ A290
          clear A290
          by_cases c30 : 6 + t1008.size ≤ 9223372036854775807
          ·rw [if_pos c30] at H
           have c30b0 := eq_true c30
           have c30b1 : decide (6 + t1008.size ≤ 9223372036854775807) = true := decide_eq_true c30
           try have c30b2 : (9223372036854775807 < 6 + t1008.size) = False := eq_false (Nat.not_lt.2 c30)
           by_cases c31 : x3_17.size + ((⟨#[32, 108, 105, 107, 101, 32]⟩ : ByteArray) ++ t1008).size ≤ 9223372036854775807
           ·rw [if_pos c31] at H
            have c31b0 := eq_true c31
            have c31b1 : decide (x3_17.size + ((⟨#[32, 108, 105, 107, 101, 32]⟩ : ByteArray) ++ t1008).size ≤ 9223372036854775807) = true := decide_eq_true c31
            try have c31b2 : (9223372036854775807 < x3_17.size + ((⟨#[32, 108, 105, 107, 101, 32]⟩ : ByteArray) ++ t1008).size) = False := eq_false (Nat.not_lt.2 c31)
            try (have c31b3 := c31b2; simp only [ByteArray.size_append, sz_mk_, List.size_toArray, List.length_cons, List.length_nil, Nat.reduceAdd] at c31b3)
            have H' := am_ H
            clear H
            have hcz32_0 : wc.cell? ⟨gb1001, 0, none⟩ = some (.int .i64 a0_0) := (blk_cell BK1001.out 0).trans rfl
            have hcz32_1 : wc.cell? ⟨gb1001, 1, none⟩ = some (.slice A0_1 l0_1.length c0_1) := (blk_cell BK1001.out 1).trans rfl
            have hcz32_2 : wc.cell? ⟨gb1001, 2, none⟩ = some (.string a0_2) := (blk_cell BK1001.out 2).trans rfl
            have hcz32_3 : wc.cell? ⟨gb1001, 3, none⟩ = some (.string a0_3) := (blk_cell BK1001.out 3).trans rfl
            have hcz32_4 : wc.cell? ⟨gb1001, 4, none⟩ = some (.string a0_4) := (blk_cell BK1001.out 4).trans rfl
            have hcz32_5 : wc.cell? ⟨gb1001, 5, none⟩ = some (.string a0_5) := (blk_cell BK1001.out 5).trans rfl
            have hcz32_6 : wc.cell? ⟨gb1001, 6, none⟩ = some (.int .i64 a0_6) := (blk_cell BK1001.out 6).trans rfl
            have hfz32_0 := bf_ BK1001 0
            have hfz32_1 := bf_ BK1001 1
            have hfz32_2 := bf_ BK1001 2
            have hfz32_3 := bf_ BK1001 3
            have hfz32_4 := bf_ BK1001 4
            have hfz32_5 := bf_ BK1001 5
            have hfz32_6 := bf_ BK1001 6
            go_wp2_with (first | ((with_reducible refine gate_callee (f := 43) rfl ?_); refine goesL_ (some 44) rfl rfl Tryd.func43 (by kernel_rfl) rfl #[.string a0_3] rfl ag_ ?_; (with_reducible refine (spec_l2Quoted.calls kj17 a0_3 t1008 _ A29.out).mono ?_); rintro e w33 ⟨rfl, hb⟩; refine ⟨_, rfl, ?_⟩; replace BK1001 := am_ (blk_below (g := gb1001) (vk_ BK1001) hb); replace HB := am_ (below_step bg_ hb); (try clear hb); (try clear hb2); (try clear hk); (try clear hi)))
            go_meet
            case rel => exact ⟨_, (x3_17 ++ ((⟨#[32, 108, 105, 107, 101, 32]⟩ : ByteArray) ++ t1008)), rs_, H', ⟨by have := HK1.out; have := HJ17.out; first | omega | exact Nat.le_refl _⟩, ⟨vk_ BK1001⟩, ⟨bg_⟩⟩
           ·rw [if_neg c31] at H
            exact absurd H (by simp)
          ·rw [if_neg c30] at H
           exact absurd H (by simp)
        case rest =>
         clear HC26
         try clear c1
         try clear p1
         try clear q1
         try clear hx1
         try clear c2
         try clear p2
         try clear c3
         try clear c3b0
         try clear c4
         try clear c4b0
         try clear c5
         try clear p6
         try clear c10
         try clear c10b0
         try clear p10
         try clear q10
         try clear hx10
         try clear c11
         try clear c11b0
         try clear c12
         try clear c12b0
         try clear c13
         try clear c13b0
         try clear c13b1
         try clear c14
         try clear c14b0
         try clear c14b1
         try clear c14b2
         try clear c15
         try clear c15b0
         try clear c15b1
         try clear c15b2
         try clear c16
         try clear c16b0
         try clear c16b1
         try clear c16b2
         try clear c17
         try clear c17b0
         try clear c17b1
         try clear c17b2
         try clear c20
         try clear c20b0
         try clear c20b1
         try clear c22
         try clear c22b0
         try clear c22b1
         try clear c22b2
         try clear c23
         try clear c23b0
         try clear c23b1
         try clear c23b2
         try clear c28
         try clear c28b0
         try clear c28b1
         try clear c30
         try clear c30b0
         try clear c30b1
         try clear c30b2
         try clear c31
         try clear c31b0
         try clear c31b1
         try clear c31b2
         try clear c33
         try clear hcz19_0
         try clear hcz19_1
         try clear hcz19_2
         try clear hcz19_3
         try clear hcz19_4
         try clear hcz19_5
         try clear hcz19_6
         try clear hcz24_0
         try clear hcz24_1
         try clear hcz24_2
         try clear hcz24_3
         try clear hcz24_4
         try clear hcz24_5
         try clear hcz24_6
         try clear hcz27_0
         try clear hcz27_1
         try clear hcz27_2
         try clear hcz27_3
         try clear hcz27_4
         try clear hcz27_5
         try clear hcz27_6
         try clear hcz32_0
         try clear hcz32_1
         try clear hcz32_2
         try clear hcz32_3
         try clear hcz32_4
         try clear hcz32_5
         try clear hcz32_6
         try clear hcz9_0
         try clear hcz9_1
         try clear hcz9_2
         try clear hcz9_3
         try clear hcz9_4
         try clear hcz9_5
         try clear hcz9_6
         try clear hfz19_0
         try clear hfz19_1
         try clear hfz19_2
         try clear hfz19_3
         try clear hfz19_4
         try clear hfz19_5
         try clear hfz19_6
         try clear hfz24_0
         try clear hfz24_1
         try clear hfz24_2
         try clear hfz24_3
         try clear hfz24_4
         try clear hfz24_5
         try clear hfz24_6
         try clear hfz27_0
         try clear hfz27_1
         try clear hfz27_2
         try clear hfz27_3
         try clear hfz27_4
         try clear hfz27_5
         try clear hfz27_6
         try clear hfz32_0
         try clear hfz32_1
         try clear hfz32_2
         try clear hfz32_3
         try clear hfz32_4
         try clear hfz32_5
         try clear hfz32_6
         try clear hfz9_0
         try clear hfz9_1
         try clear hfz9_2
         try clear hfz9_3
         try clear hfz9_4
         try clear hfz9_5
         try clear hfz9_6
         try clear hx1005_0
         try clear hx1006_0
         try clear p1
         try clear p10
         try clear p1005
         try clear p1006
         try clear p2
         try clear p6
         try clear q1
         try clear q10
         try clear q1005
         try clear q1006
         obtain ⟨kq, x3_25, rfl, HA, HJ25, BK1001, HB⟩ := hcut
         cases kq with
         | zero => exact absurd HA.out (by simp [spec_l4Text.j2])
         | succ kj25 =>
          have H := HA.out
          clear HA
          simp only [spec_l4Text.j2] at H
          have HC34 := am_ H
          clear H
          have hcz35_0 : wc.cell? ⟨gb1001, 0, none⟩ = some (.int .i64 a0_0) := (blk_cell BK1001.out 0).trans rfl
          have hcz35_1 : wc.cell? ⟨gb1001, 1, none⟩ = some (.slice A0_1 l0_1.length c0_1) := (blk_cell BK1001.out 1).trans rfl
          have hcz35_2 : wc.cell? ⟨gb1001, 2, none⟩ = some (.string a0_2) := (blk_cell BK1001.out 2).trans rfl
          have hcz35_3 : wc.cell? ⟨gb1001, 3, none⟩ = some (.string a0_3) := (blk_cell BK1001.out 3).trans rfl
          have hcz35_4 : wc.cell? ⟨gb1001, 4, none⟩ = some (.string a0_4) := (blk_cell BK1001.out 4).trans rfl
          have hcz35_5 : wc.cell? ⟨gb1001, 5, none⟩ = some (.string a0_5) := (blk_cell BK1001.out 5).trans rfl
          have hcz35_6 : wc.cell? ⟨gb1001, 6, none⟩ = some (.int .i64 a0_6) := (blk_cell BK1001.out 6).trans rfl
          have hfz35_0 := bf_ BK1001 0
          have hfz35_1 := bf_ BK1001 1
          have hfz35_2 := bf_ BK1001 2
          have hfz35_3 := bf_ BK1001 3
          have hfz35_4 := bf_ BK1001 4
          have hfz35_5 := bf_ BK1001 5
          have hfz35_6 := bf_ BK1001 6
          go_upto_if 49 with (fail)
          go_cut [3] (fun v3 wc => ∃ (kq : Nat) (x3_33 : ByteArray), v3 = .string x3_33 ∧ Aside0 (spec_l4Text.j3 kq x3_33 a0_0 l0_1 a0_2 a0_3 a0_4 a0_5 a0_6 = some r) ∧ Aside0 (kq ≤ kj25) ∧ Aside0 (wc.heap[gb1001]? = some (.cells #[.int .i64 a0_0, (.slice A0_1 l0_1.length c0_1), .string a0_2, .string a0_3, .string a0_4, .string a0_5, .int .i64 a0_6] 38 (0, 0))) ∧ Aside0 (Below w.heap.size w wc))
          case first =>
           have H := HC34.out
           clear HC34
           by_cases c36 : a0_4.toList = ([] : List UInt8)
           ·rw [if_pos c36] at H
            have c36b0 : (a0_4.toList == ([] : List UInt8)) = true := beq_iff_eq.mpr c36
            have c36b1 : (a0_4.toList != ([] : List UInt8)) = false := bne_eq_false_iff_eq.mpr c36
            try (have c36b8 : a0_4.toList.isEmpty = true := by have e_ := c36b1; rw [Go.Proofs.YtknlgignjbghkaaDoor.Gt.nil_bne] at e_; simpa using e_)
            clear c36
            (first | rw [c36b0] | (simp only [i64_w, i32_w]; rw [c36b0]) | (rw [c36b8]; simp only [Bool.not_true, Bool.not_false]) | skip)
            have H' := am_ H
            clear H
            go_wp2
            go_meet
            case rel => exact ⟨_, (x3_25), rs_, H', ⟨by have := HK1.out; have := HJ17.out; have := HJ25.out; first | omega | exact Nat.le_refl _⟩, ⟨vk_ BK1001⟩, ⟨bg_⟩⟩
           ·rw [if_neg c36] at H
            have c36b0 : (a0_4.toList == ([] : List UInt8)) = false := beq_eq_false_iff_ne.mpr c36
            have c36b1 : (a0_4.toList != ([] : List UInt8)) = true := bne_iff_ne.mpr c36
            try (have c36b8 : a0_4.toList.isEmpty = false := by have e_ := c36b1; rw [Go.Proofs.YtknlgignjbghkaaDoor.Gt.nil_bne] at e_; simpa using e_)
            (first | rw [c36b0] | (simp only [i64_w, i32_w]; rw [c36b0]) | (rw [c36b8]; simp only [Bool.not_true, Bool.not_false]) | skip)
            by_cases c37 : 4 + a0_4.size ≤ 9223372036854775807
            ·rw [if_pos c37] at H
             have c37b0 := eq_true c37
             have c37b1 : decide (4 + a0_4.size ≤ 9223372036854775807) = true := decide_eq_true c37
             try have c37b2 : (9223372036854775807 < 4 + a0_4.size) = False := eq_false (Nat.not_lt.2 c37)
             by_cases c38 : x3_25.size + ((⟨#[32, 116, 111, 32]⟩ : ByteArray) ++ a0_4).size ≤ 9223372036854775807
             ·rw [if_pos c38] at H
              have c38b0 := eq_true c38
              have c38b1 : decide (x3_25.size + ((⟨#[32, 116, 111, 32]⟩ : ByteArray) ++ a0_4).size ≤ 9223372036854775807) = true := decide_eq_true c38
              try have c38b2 : (9223372036854775807 < x3_25.size + ((⟨#[32, 116, 111, 32]⟩ : ByteArray) ++ a0_4).size) = False := eq_false (Nat.not_lt.2 c38)
              try (have c38b3 := c38b2; simp only [ByteArray.size_append, sz_mk_, List.size_toArray, List.length_cons, List.length_nil, Nat.reduceAdd] at c38b3)
              have H' := am_ H
              clear H
              have hcz39_0 : wc.cell? ⟨gb1001, 0, none⟩ = some (.int .i64 a0_0) := (blk_cell BK1001.out 0).trans rfl
              have hcz39_1 : wc.cell? ⟨gb1001, 1, none⟩ = some (.slice A0_1 l0_1.length c0_1) := (blk_cell BK1001.out 1).trans rfl
              have hcz39_2 : wc.cell? ⟨gb1001, 2, none⟩ = some (.string a0_2) := (blk_cell BK1001.out 2).trans rfl
              have hcz39_3 : wc.cell? ⟨gb1001, 3, none⟩ = some (.string a0_3) := (blk_cell BK1001.out 3).trans rfl
              have hcz39_4 : wc.cell? ⟨gb1001, 4, none⟩ = some (.string a0_4) := (blk_cell BK1001.out 4).trans rfl
              have hcz39_5 : wc.cell? ⟨gb1001, 5, none⟩ = some (.string a0_5) := (blk_cell BK1001.out 5).trans rfl
              have hcz39_6 : wc.cell? ⟨gb1001, 6, none⟩ = some (.int .i64 a0_6) := (blk_cell BK1001.out 6).trans rfl
              have hfz39_0 := bf_ BK1001 0
              have hfz39_1 := bf_ BK1001 1
              have hfz39_2 := bf_ BK1001 2
              have hfz39_3 := bf_ BK1001 3
              have hfz39_4 := bf_ BK1001 4
              have hfz39_5 := bf_ BK1001 5
              have hfz39_6 := bf_ BK1001 6
              go_wp2
              go_meet
              case rel => exact ⟨_, (x3_25 ++ ((⟨#[32, 116, 111, 32]⟩ : ByteArray) ++ a0_4)), rs_, H', ⟨by have := HK1.out; have := HJ17.out; have := HJ25.out; first | omega | exact Nat.le_refl _⟩, ⟨vk_ BK1001⟩, ⟨bg_⟩⟩
             ·rw [if_neg c38] at H
              exact absurd H (by simp)
            ·rw [if_neg c37] at H
             exact absurd H (by simp)
          case rest =>
           clear HC34
           try clear c1
           try clear p1
           try clear q1
           try clear hx1
           try clear c2
           try clear p2
           try clear c3
           try clear c3b0
           try clear c4
           try clear c4b0
           try clear c5
           try clear p6
           try clear c10
           try clear c10b0
           try clear p10
           try clear q10
           try clear hx10
           try clear c11
           try clear c11b0
           try clear c12
           try clear c12b0
           try clear c13
           try clear c13b0
           try clear c13b1
           try clear c14
           try clear c14b0
           try clear c14b1
           try clear c14b2
           try clear c15
           try clear c15b0
           try clear c15b1
           try clear c15b2
           try clear c16
           try clear c16b0
           try clear c16b1
           try clear c16b2
           try clear c17
           try clear c17b0
           try clear c17b1
           try clear c17b2
           try clear c20
           try clear c20b0
           try clear c20b1
           try clear c22
           try clear c22b0
           try clear c22b1
           try clear c22b2
           try clear c23
           try clear c23b0
           try clear c23b1
           try clear c23b2
           try clear c28
           try clear c28b0
           try clear c28b1
           try clear c30
           try clear c30b0
           try clear c30b1
           try clear c30b2
           try clear c31
           try clear c31b0
           try clear c31b1
           try clear c31b2
           try clear c33
           try clear c36
           try clear c36b0
           try clear c36b1
           try clear c37
           try clear c37b0
           try clear c37b1
           try clear c37b2
           try clear c38
           try clear c38b0
           try clear c38b1
           try clear c38b2
           try clear hcz19_0
           try clear hcz19_1
           try clear hcz19_2
           try clear hcz19_3
           try clear hcz19_4
           try clear hcz19_5
           try clear hcz19_6
           try clear hcz24_0
           try clear hcz24_1
           try clear hcz24_2
           try clear hcz24_3
           try clear hcz24_4
           try clear hcz24_5
           try clear hcz24_6
           try clear hcz27_0
           try clear hcz27_1
           try clear hcz27_2
           try clear hcz27_3
           try clear hcz27_4
           try clear hcz27_5
           try clear hcz27_6
           try clear hcz32_0
           try clear hcz32_1
           try clear hcz32_2
           try clear hcz32_3
           try clear hcz32_4
           try clear hcz32_5
           try clear hcz32_6
           try clear hcz35_0
           try clear hcz35_1
           try clear hcz35_2
           try clear hcz35_3
           try clear hcz35_4
           try clear hcz35_5
           try clear hcz35_6
           try clear hcz39_0
           try clear hcz39_1
           try clear hcz39_2
           try clear hcz39_3
           try clear hcz39_4
           try clear hcz39_5
           try clear hcz39_6
           try clear hcz9_0
           try clear hcz9_1
           try clear hcz9_2
           try clear hcz9_3
           try clear hcz9_4
           try clear hcz9_5
           try clear hcz9_6
           try clear hfz19_0
           try clear hfz19_1
           try clear hfz19_2
           try clear hfz19_3
           try clear hfz19_4
           try clear hfz19_5
           try clear hfz19_6
           try clear hfz24_0
           try clear hfz24_1
           try clear hfz24_2
           try clear hfz24_3
           try clear hfz24_4
           try clear hfz24_5
           try clear hfz24_6
           try clear hfz27_0
           try clear hfz27_1
           try clear hfz27_2
           try clear hfz27_3
           try clear hfz27_4
           try clear hfz27_5
           try clear hfz27_6
           try clear hfz32_0
           try clear hfz32_1
           try clear hfz32_2
           try clear hfz32_3
           try clear hfz32_4
           try clear hfz32_5
           try clear hfz32_6
           try clear hfz35_0
           try clear hfz35_1
           try clear hfz35_2
           try clear hfz35_3
           try clear hfz35_4
           try clear hfz35_5
           try clear hfz35_6
           try clear hfz39_0
           try clear hfz39_1
           try clear hfz39_2
           try clear hfz39_3
           try clear hfz39_4
           try clear hfz39_5
           try clear hfz39_6
           try clear hfz9_0
           try clear hfz9_1
           try clear hfz9_2
           try clear hfz9_3
           try clear hfz9_4
           try clear hfz9_5
           try clear hfz9_6
           try clear hx1005_0
           try clear hx1006_0
           try clear p1
           try clear p10
           try clear p1005
           try clear p1006
           try clear p2
           try clear p6
           try clear q1
           try clear q10
           try clear q1005
           try clear q1006
           obtain ⟨kq, x3_33, rfl, HA, HJ33, BK1001, HB⟩ := hcut
           cases kq with
           | zero => exact absurd HA.out (by simp [spec_l4Text.j3])
           | succ kj33 =>
            have H := HA.out
            clear HA
            simp only [spec_l4Text.j3] at H
            by_cases c40 : a0_5.toList = ([] : List UInt8)
            ·rw [if_pos c40] at H
             have c40b0 : (a0_5.toList == ([] : List UInt8)) = true := beq_iff_eq.mpr c40
             have c40b1 : (a0_5.toList != ([] : List UInt8)) = false := bne_eq_false_iff_eq.mpr c40
             try (have c40b8 : a0_5.toList.isEmpty = true := by have e_ := c40b1; rw [Go.Proofs.YtknlgignjbghkaaDoor.Gt.nil_bne] at e_; simpa using e_)
             clear c40
             by_cases c41 : a0_6 = 0
             ·rw [if_pos c41] at H
              have c41b0 : (a0_6 == 0) = true := beq_iff_eq.mpr c41
              have c41b1 : (a0_6 != 0) = false := bne_eq_false_iff_eq.mpr c41
              clear c41
              obtain rfl := Option.some.inj H
              have hcz42_0 : wc.cell? ⟨gb1001, 0, none⟩ = some (.int .i64 a0_0) := (blk_cell BK1001.out 0).trans rfl
              have hcz42_1 : wc.cell? ⟨gb1001, 1, none⟩ = some (.slice A0_1 l0_1.length c0_1) := (blk_cell BK1001.out 1).trans rfl
              have hcz42_2 : wc.cell? ⟨gb1001, 2, none⟩ = some (.string a0_2) := (blk_cell BK1001.out 2).trans rfl
              have hcz42_3 : wc.cell? ⟨gb1001, 3, none⟩ = some (.string a0_3) := (blk_cell BK1001.out 3).trans rfl
              have hcz42_4 : wc.cell? ⟨gb1001, 4, none⟩ = some (.string a0_4) := (blk_cell BK1001.out 4).trans rfl
              have hcz42_5 : wc.cell? ⟨gb1001, 5, none⟩ = some (.string a0_5) := (blk_cell BK1001.out 5).trans rfl
              have hcz42_6 : wc.cell? ⟨gb1001, 6, none⟩ = some (.int .i64 a0_6) := (blk_cell BK1001.out 6).trans rfl
              have hfz42_0 := bf_ BK1001 0
              have hfz42_1 := bf_ BK1001 1
              have hfz42_2 := bf_ BK1001 2
              have hfz42_3 := bf_ BK1001 3
              have hfz42_4 := bf_ BK1001 4
              have hfz42_5 := bf_ BK1001 5
              have hfz42_6 := bf_ BK1001 6
              go_wp2
              go_ret
              exact ⟨rf_, bg_⟩
             ·rw [if_neg c41] at H
              have c41b0 : (a0_6 == 0) = false := beq_eq_false_iff_ne.mpr c41
              have c41b1 : (a0_6 != 0) = true := bne_iff_ne.mpr c41
              replace H := Option.bind_eq_some_iff.mp H
              obtain ⟨t1009, A430, H⟩ := H
              replace H : (if 4 + t1009.size ≤ 9223372036854775807 then (if x3_33.size + ((⟨#[32, 98, 121, 32]⟩ : ByteArray) ++ t1009).size ≤ 9223372036854775807 then (some (x3_33 ++ ((⟨#[32, 98, 121, 32]⟩ : ByteArray) ++ t1009))) else (none)) else (none)) = some r := H
              have A43 := am_ A430
              clear A430
              by_cases c44 : 4 + t1009.size ≤ 9223372036854775807
              ·rw [if_pos c44] at H
               have c44b0 := eq_true c44
               have c44b1 : decide (4 + t1009.size ≤ 9223372036854775807) = true := decide_eq_true c44
               try have c44b2 : (9223372036854775807 < 4 + t1009.size) = False := eq_false (Nat.not_lt.2 c44)
               by_cases c45 : x3_33.size + ((⟨#[32, 98, 121, 32]⟩ : ByteArray) ++ t1009).size ≤ 9223372036854775807
               ·rw [if_pos c45] at H
                have c45b0 := eq_true c45
                have c45b1 : decide (x3_33.size + ((⟨#[32, 98, 121, 32]⟩ : ByteArray) ++ t1009).size ≤ 9223372036854775807) = true := decide_eq_true c45
                try have c45b2 : (9223372036854775807 < x3_33.size + ((⟨#[32, 98, 121, 32]⟩ : ByteArray) ++ t1009).size) = False := eq_false (Nat.not_lt.2 c45)
                try (have c45b3 := c45b2; simp only [ByteArray.size_append, sz_mk_, List.size_toArray, List.length_cons, List.length_nil, Nat.reduceAdd] at c45b3)
                obtain rfl := Option.some.inj H
                have hcz46_0 : wc.cell? ⟨gb1001, 0, none⟩ = some (.int .i64 a0_0) := (blk_cell BK1001.out 0).trans rfl
                have hcz46_1 : wc.cell? ⟨gb1001, 1, none⟩ = some (.slice A0_1 l0_1.length c0_1) := (blk_cell BK1001.out 1).trans rfl
                have hcz46_2 : wc.cell? ⟨gb1001, 2, none⟩ = some (.string a0_2) := (blk_cell BK1001.out 2).trans rfl
                have hcz46_3 : wc.cell? ⟨gb1001, 3, none⟩ = some (.string a0_3) := (blk_cell BK1001.out 3).trans rfl
                have hcz46_4 : wc.cell? ⟨gb1001, 4, none⟩ = some (.string a0_4) := (blk_cell BK1001.out 4).trans rfl
                have hcz46_5 : wc.cell? ⟨gb1001, 5, none⟩ = some (.string a0_5) := (blk_cell BK1001.out 5).trans rfl
                have hcz46_6 : wc.cell? ⟨gb1001, 6, none⟩ = some (.int .i64 a0_6) := (blk_cell BK1001.out 6).trans rfl
                have hfz46_0 := bf_ BK1001 0
                have hfz46_1 := bf_ BK1001 1
                have hfz46_2 := bf_ BK1001 2
                have hfz46_3 := bf_ BK1001 3
                have hfz46_4 := bf_ BK1001 4
                have hfz46_5 := bf_ BK1001 5
                have hfz46_6 := bf_ BK1001 6
                go_wp2_with (first | ((with_reducible refine gate_callee (f := 58) rfl ?_); refine goesL_ (some 70) rfl rfl Tryd.func58 (by kernel_rfl) rfl #[.int .i64 a0_6] rfl ag_ ?_; (with_reducible refine (spec_l2Num.calls kj33 a0_6 t1009 _ A43.out).mono ?_); rintro e w47 ⟨rfl, hb⟩; refine ⟨_, rfl, ?_⟩; replace BK1001 := am_ (blk_below (g := gb1001) (vk_ BK1001) hb); replace HB := am_ (below_step bg_ hb); (try clear hb); (try clear hb2); (try clear hk); (try clear hi)))
                go_ret
                exact ⟨rf_, bg_⟩
               ·rw [if_neg c45] at H
                exact absurd H (by simp)
              ·rw [if_neg c44] at H
               exact absurd H (by simp)
            ·rw [if_neg c40] at H
             have c40b0 : (a0_5.toList == ([] : List UInt8)) = false := beq_eq_false_iff_ne.mpr c40
             have c40b1 : (a0_5.toList != ([] : List UInt8)) = true := bne_iff_ne.mpr c40
             try (have c40b8 : a0_5.toList.isEmpty = false := by have e_ := c40b1; rw [Go.Proofs.YtknlgignjbghkaaDoor.Gt.nil_bne] at e_; simpa using e_)
             replace H := Option.bind_eq_some_iff.mp H
             obtain ⟨t1010, A480, H⟩ := H
             replace H : (if 4 + t1010.size ≤ 9223372036854775807 then (if x3_33.size + ((⟨#[32, 97, 115, 32]⟩ : ByteArray) ++ t1010).size ≤ 9223372036854775807 then (if a0_6 = 0 then (some (x3_33 ++ ((⟨#[32, 97, 115, 32]⟩ : ByteArray) ++ t1010))) else ((spec_l2Num.f kj33 a0_6).bind fun t1011 => (if 4 + t1011.size ≤ 9223372036854775807 then (if (x3_33 ++ ((⟨#[32, 97, 115, 32]⟩ : ByteArray) ++ t1010)).size + ((⟨#[32, 98, 121, 32]⟩ : ByteArray) ++ t1011).size ≤ 9223372036854775807 then (some ((x3_33 ++ ((⟨#[32, 97, 115, 32]⟩ : ByteArray) ++ t1010)) ++ ((⟨#[32, 98, 121, 32]⟩ : ByteArray) ++ t1011))) else (none)) else (none)))) else (none)) else (none)) = some r := H
             have A48 := am_ A480
             clear A480
             by_cases c49 : 4 + t1010.size ≤ 9223372036854775807
             ·rw [if_pos c49] at H
              have c49b0 := eq_true c49
              have c49b1 : decide (4 + t1010.size ≤ 9223372036854775807) = true := decide_eq_true c49
              try have c49b2 : (9223372036854775807 < 4 + t1010.size) = False := eq_false (Nat.not_lt.2 c49)
              by_cases c50 : x3_33.size + ((⟨#[32, 97, 115, 32]⟩ : ByteArray) ++ t1010).size ≤ 9223372036854775807
              ·rw [if_pos c50] at H
               have c50b0 := eq_true c50
               have c50b1 : decide (x3_33.size + ((⟨#[32, 97, 115, 32]⟩ : ByteArray) ++ t1010).size ≤ 9223372036854775807) = true := decide_eq_true c50
               try have c50b2 : (9223372036854775807 < x3_33.size + ((⟨#[32, 97, 115, 32]⟩ : ByteArray) ++ t1010).size) = False := eq_false (Nat.not_lt.2 c50)
               try (have c50b3 := c50b2; simp only [ByteArray.size_append, sz_mk_, List.size_toArray, List.length_cons, List.length_nil, Nat.reduceAdd] at c50b3)
               by_cases c51 : a0_6 = 0
               ·rw [if_pos c51] at H
                have c51b0 : (a0_6 == 0) = true := beq_iff_eq.mpr c51
                have c51b1 : (a0_6 != 0) = false := bne_eq_false_iff_eq.mpr c51
                clear c51
                obtain rfl := Option.some.inj H
                have hcz52_0 : wc.cell? ⟨gb1001, 0, none⟩ = some (.int .i64 a0_0) := (blk_cell BK1001.out 0).trans rfl
                have hcz52_1 : wc.cell? ⟨gb1001, 1, none⟩ = some (.slice A0_1 l0_1.length c0_1) := (blk_cell BK1001.out 1).trans rfl
                have hcz52_2 : wc.cell? ⟨gb1001, 2, none⟩ = some (.string a0_2) := (blk_cell BK1001.out 2).trans rfl
                have hcz52_3 : wc.cell? ⟨gb1001, 3, none⟩ = some (.string a0_3) := (blk_cell BK1001.out 3).trans rfl
                have hcz52_4 : wc.cell? ⟨gb1001, 4, none⟩ = some (.string a0_4) := (blk_cell BK1001.out 4).trans rfl
                have hcz52_5 : wc.cell? ⟨gb1001, 5, none⟩ = some (.string a0_5) := (blk_cell BK1001.out 5).trans rfl
                have hcz52_6 : wc.cell? ⟨gb1001, 6, none⟩ = some (.int .i64 a0_6) := (blk_cell BK1001.out 6).trans rfl
                have hfz52_0 := bf_ BK1001 0
                have hfz52_1 := bf_ BK1001 1
                have hfz52_2 := bf_ BK1001 2
                have hfz52_3 := bf_ BK1001 3
                have hfz52_4 := bf_ BK1001 4
                have hfz52_5 := bf_ BK1001 5
                have hfz52_6 := bf_ BK1001 6
                go_wp2_with (first | ((with_reducible refine gate_callee (f := 43) rfl ?_); refine goesL_ (some 61) rfl rfl Tryd.func43 (by kernel_rfl) rfl #[.string a0_5] rfl ag_ ?_; (with_reducible refine (spec_l2Quoted.calls kj33 a0_5 t1010 _ A48.out).mono ?_); rintro e w53 ⟨rfl, hb⟩; refine ⟨_, rfl, ?_⟩; replace BK1001 := am_ (blk_below (g := gb1001) (vk_ BK1001) hb); replace HB := am_ (below_step bg_ hb); (try clear hb); (try clear hb2); (try clear hk); (try clear hi); have hcz54_0 : w53.cell? ⟨gb1001, 0, none⟩ = some (.int .i64 a0_0) := (blk_cell BK1001.out 0).trans rfl; have hcz54_1 : w53.cell? ⟨gb1001, 1, none⟩ = some (.slice A0_1 l0_1.length c0_1) := (blk_cell BK1001.out 1).trans rfl; have hcz54_2 : w53.cell? ⟨gb1001, 2, none⟩ = some (.string a0_2) := (blk_cell BK1001.out 2).trans rfl; have hcz54_3 : w53.cell? ⟨gb1001, 3, none⟩ = some (.string a0_3) := (blk_cell BK1001.out 3).trans rfl; have hcz54_4 : w53.cell? ⟨gb1001, 4, none⟩ = some (.string a0_4) := (blk_cell BK1001.out 4).trans rfl; have hcz54_5 : w53.cell? ⟨gb1001, 5, none⟩ = some (.string a0_5) := (blk_cell BK1001.out 5).trans rfl; have hcz54_6 : w53.cell? ⟨gb1001, 6, none⟩ = some (.int .i64 a0_6) := (blk_cell BK1001.out 6).trans rfl; have hfz54_0 := bf_ BK1001 0; have hfz54_1 := bf_ BK1001 1; have hfz54_2 := bf_ BK1001 2; have hfz54_3 := bf_ BK1001 3; have hfz54_4 := bf_ BK1001 4; have hfz54_5 := bf_ BK1001 5; have hfz54_6 := bf_ BK1001 6))
                go_ret
                exact ⟨rf_, bg_⟩
               ·rw [if_neg c51] at H
                have c51b0 : (a0_6 == 0) = false := beq_eq_false_iff_ne.mpr c51
                have c51b1 : (a0_6 != 0) = true := bne_iff_ne.mpr c51
                replace H := Option.bind_eq_some_iff.mp H
                obtain ⟨t1011, A550, H⟩ := H
                replace H : (if 4 + t1011.size ≤ 9223372036854775807 then (if (x3_33 ++ ((⟨#[32, 97, 115, 32]⟩ : ByteArray) ++ t1010)).size + ((⟨#[32, 98, 121, 32]⟩ : ByteArray) ++ t1011).size ≤ 9223372036854775807 then (some ((x3_33 ++ ((⟨#[32, 97, 115, 32]⟩ : ByteArray) ++ t1010)) ++ ((⟨#[32, 98, 121, 32]⟩ : ByteArray) ++ t1011))) else (none)) else (none)) = some r := H
                have A55 := am_ A550
                clear A550
                by_cases c56 : 4 + t1011.size ≤ 9223372036854775807
                ·rw [if_pos c56] at H
                 have c56b0 := eq_true c56
                 have c56b1 : decide (4 + t1011.size ≤ 9223372036854775807) = true := decide_eq_true c56
                 try have c56b2 : (9223372036854775807 < 4 + t1011.size) = False := eq_false (Nat.not_lt.2 c56)
                 by_cases c57 : (x3_33 ++ ((⟨#[32, 97, 115, 32]⟩ : ByteArray) ++ t1010)).size + ((⟨#[32, 98, 121, 32]⟩ : ByteArray) ++ t1011).size ≤ 9223372036854775807
                 ·rw [if_pos c57] at H
                  have c57b0 := eq_true c57
                  have c57b1 : decide ((x3_33 ++ ((⟨#[32, 97, 115, 32]⟩ : ByteArray) ++ t1010)).size + ((⟨#[32, 98, 121, 32]⟩ : ByteArray) ++ t1011).size ≤ 9223372036854775807) = true := decide_eq_true c57
                  try have c57b2 : (9223372036854775807 < (x3_33 ++ ((⟨#[32, 97, 115, 32]⟩ : ByteArray) ++ t1010)).size + ((⟨#[32, 98, 121, 32]⟩ : ByteArray) ++ t1011).size) = False := eq_false (Nat.not_lt.2 c57)
                  try (have c57b3 := c57b2; simp only [ByteArray.size_append, sz_mk_, List.size_toArray, List.length_cons, List.length_nil, Nat.reduceAdd] at c57b3)
                  obtain rfl := Option.some.inj H
                  have hcz58_0 : wc.cell? ⟨gb1001, 0, none⟩ = some (.int .i64 a0_0) := (blk_cell BK1001.out 0).trans rfl
                  have hcz58_1 : wc.cell? ⟨gb1001, 1, none⟩ = some (.slice A0_1 l0_1.length c0_1) := (blk_cell BK1001.out 1).trans rfl
                  have hcz58_2 : wc.cell? ⟨gb1001, 2, none⟩ = some (.string a0_2) := (blk_cell BK1001.out 2).trans rfl
                  have hcz58_3 : wc.cell? ⟨gb1001, 3, none⟩ = some (.string a0_3) := (blk_cell BK1001.out 3).trans rfl
                  have hcz58_4 : wc.cell? ⟨gb1001, 4, none⟩ = some (.string a0_4) := (blk_cell BK1001.out 4).trans rfl
                  have hcz58_5 : wc.cell? ⟨gb1001, 5, none⟩ = some (.string a0_5) := (blk_cell BK1001.out 5).trans rfl
                  have hcz58_6 : wc.cell? ⟨gb1001, 6, none⟩ = some (.int .i64 a0_6) := (blk_cell BK1001.out 6).trans rfl
                  have hfz58_0 := bf_ BK1001 0
                  have hfz58_1 := bf_ BK1001 1
                  have hfz58_2 := bf_ BK1001 2
                  have hfz58_3 := bf_ BK1001 3
                  have hfz58_4 := bf_ BK1001 4
                  have hfz58_5 := bf_ BK1001 5
                  have hfz58_6 := bf_ BK1001 6
                  go_wp2_with (first | ((with_reducible refine gate_callee (f := 43) rfl ?_); refine goesL_ (some 61) rfl rfl Tryd.func43 (by kernel_rfl) rfl #[.string a0_5] rfl ag_ ?_; (with_reducible refine (spec_l2Quoted.calls kj33 a0_5 t1010 _ A48.out).mono ?_); rintro e w59 ⟨rfl, hb⟩; refine ⟨_, rfl, ?_⟩; replace BK1001 := am_ (blk_below (g := gb1001) (vk_ BK1001) hb); replace HB := am_ (below_step bg_ hb); (try clear hb); (try clear hb2); (try clear hk); (try clear hi); have hcz60_0 : w59.cell? ⟨gb1001, 0, none⟩ = some (.int .i64 a0_0) := (blk_cell BK1001.out 0).trans rfl; have hcz60_1 : w59.cell? ⟨gb1001, 1, none⟩ = some (.slice A0_1 l0_1.length c0_1) := (blk_cell BK1001.out 1).trans rfl; have hcz60_2 : w59.cell? ⟨gb1001, 2, none⟩ = some (.string a0_2) := (blk_cell BK1001.out 2).trans rfl; have hcz60_3 : w59.cell? ⟨gb1001, 3, none⟩ = some (.string a0_3) := (blk_cell BK1001.out 3).trans rfl; have hcz60_4 : w59.cell? ⟨gb1001, 4, none⟩ = some (.string a0_4) := (blk_cell BK1001.out 4).trans rfl; have hcz60_5 : w59.cell? ⟨gb1001, 5, none⟩ = some (.string a0_5) := (blk_cell BK1001.out 5).trans rfl; have hcz60_6 : w59.cell? ⟨gb1001, 6, none⟩ = some (.int .i64 a0_6) := (blk_cell BK1001.out 6).trans rfl; have hfz60_0 := bf_ BK1001 0; have hfz60_1 := bf_ BK1001 1; have hfz60_2 := bf_ BK1001 2; have hfz60_3 := bf_ BK1001 3; have hfz60_4 := bf_ BK1001 4; have hfz60_5 := bf_ BK1001 5; have hfz60_6 := bf_ BK1001 6) | ((with_reducible refine gate_callee (f := 58) rfl ?_); refine goesL_ (some 70) rfl rfl Tryd.func58 (by kernel_rfl) rfl #[.int .i64 a0_6] rfl ag_ ?_; (with_reducible refine (spec_l2Num.calls kj33 a0_6 t1011 _ A55.out).mono ?_); rintro e w61 ⟨rfl, hb⟩; refine ⟨_, rfl, ?_⟩; replace BK1001 := am_ (blk_below (g := gb1001) (vk_ BK1001) hb); replace HB := am_ (below_step bg_ hb); (try clear hb); (try clear hb2); (try clear hk); (try clear hi)))
                  go_ret
                  exact ⟨rf_, bg_⟩
                 ·rw [if_neg c57] at H
                  exact absurd H (by simp)
                ·rw [if_neg c56] at H
                 exact absurd H (by simp)
              ·rw [if_neg c50] at H
               exact absurd H (by simp)
             ·rw [if_neg c49] at H
              exact absurd H (by simp)
  ·rw [if_neg c4] at H
   exact absurd H (by simp)
 ·rw [if_neg c3] at H
  exact absurd H (by simp)

/-! ### spec_RelabelText: function 16 -/
def spec_RelabelText.f (k : Nat) (a0_0 : Int) (l0_1 : List ByteArray) (a0_2 : ByteArray) (a0_3 : ByteArray) (a0_4 : ByteArray) (a0_5 : ByteArray) (a0_6 : Int) : Option (ByteArray) := (spec_GoodRelabel.f k a0_0 l0_1 a0_2 a0_3 a0_4 a0_5 a0_6).bind fun t1002 => (if t1002 = true then ((spec_l4Text.f k a0_0 l0_1 a0_2 a0_3 a0_4 a0_5 a0_6).bind fun t1003 => (some t1003)) else (some (⟨#[]⟩ : ByteArray)))
theorem spec_RelabelText.mono : ∀ a0 a1 a2 a3 a4 a5 a6 k, LeO (spec_RelabelText.f k a0 a1 a2 a3 a4 a5 a6) (spec_RelabelText.f (k + 1) a0 a1 a2 a3 a4 a5 a6) := by
 intro a0 a1 a2 a3 a4 a5 a6 k
 unfold spec_RelabelText.f
 repeat' first
   | with_reducible first | exact spec_GoodRelabel.mono _ _ _ _ _ _ _ _ | exact spec_l4Text.mono _ _ _ _ _ _ _ _ | exact LeO.refl _ | exact LeO.none _ | refine LeO.ite ?_ ?_ | refine LeO.bind ?_ (fun _ => ?_)
   | exact spec_GoodRelabel.mono _ _ _ _ _ _ _ _
   | exact spec_l4Text.mono _ _ _ _ _ _ _ _
   | exact LeO.none _
   | refine LeO.ite ?_ ?_
   | refine LeO.bind ?_ (fun _ => ?_)
set_option maxHeartbeats 8000000 in
set_option maxRecDepth 100000 in
theorem spec_RelabelText.calls (k : Nat) (a0_0 : Int) (A0_1 : Option Addr) (c0_1 : Nat) (l0_1 : List ByteArray) (a0_2 : ByteArray) (a0_3 : ByteArray) (a0_4 : ByteArray) (a0_5 : ByteArray) (a0_6 : Int) (r : ByteArray) (w : World) (hr0_1 : Kd.C Kd.string w A0_1 l0_1.length l0_1) (hc0_1 : l0_1.length ≤ c0_1) (h : spec_RelabelText.f k a0_0 l0_1 a0_2 a0_3 a0_4 a0_5 a0_6 = some r) :
  Calls Tryd.prog 16 #[.agg #[.int .i64 a0_0, .slice A0_1 l0_1.length c0_1, .string a0_2, .string a0_3, .string a0_4, .string a0_5, .int .i64 a0_6]] w fun e w' => e = .returned (.string r) ∧ Below w.heap.size w w' := by
 have hu38 := Tryd.underlying38
 have HR0_1 := am_ hr0_1
 have HC0_1 := am_ hc0_1
 clear hr0_1 hc0_1
 have HB := am_ (Below.refl w.heap.size w)
 have H : ((spec_GoodRelabel.f k a0_0 l0_1 a0_2 a0_3 a0_4 a0_5 a0_6).bind fun t1002 => (if t1002 = true then ((spec_l4Text.f k a0_0 l0_1 a0_2 a0_3 a0_4 a0_5 a0_6).bind fun t1003 => (some t1003)) else (some (⟨#[]⟩ : ByteArray)))) = some r := h
 clear h
 replace H := Option.bind_eq_some_iff.mp H
 obtain ⟨t1002, A20, H⟩ := H
 replace H : (if t1002 = true then ((spec_l4Text.f k a0_0 l0_1 a0_2 a0_3 a0_4 a0_5 a0_6).bind fun t1003 => (some t1003)) else (some (⟨#[]⟩ : ByteArray))) = some r := H
 have A2 := am_ A20
 clear A20
 by_cases c3 : t1002 = true
 ·subst c3
  have H1 : ((spec_l4Text.f k a0_0 l0_1 a0_2 a0_3 a0_4 a0_5 a0_6).bind fun t1003 => (some t1003)) = some r := by rw [if_pos rfl] at H; exact H
  clear H
  have H := H1
  clear H1
  replace H := Option.bind_eq_some_iff.mp H
  obtain ⟨t1003, A40, H⟩ := H
  replace H : (some t1003) = some r := H
  have A4 := am_ A40
  clear A40
  obtain rfl := Option.some.inj H
  go_enter Tryd.func16, Tryd.ntmps16
  go_wp2_with (first | ((with_reducible refine gate_dst (N := 1) rfl ?_); refine bx_ 1 #[.int .i64 a0_0, .slice A0_1 l0_1.length c0_1, .string a0_2, .string a0_3, .string a0_4, .string a0_5, .int .i64 a0_6] 38 ?_; intro gb1001 hg w5 hbox hb; have BK1001 := am_ (hbox); have GW1001 := am_ (gs_ hg : w.heap.size ≤ gb1001); replace HB := am_ (below_step bl_ hb); have GE1001 := GW1001; clear hb hbox hg; have hcz6_0 : w5.cell? ⟨gb1001, 0, none⟩ = some (.int .i64 a0_0) := (blk_cell BK1001.out 0).trans rfl; have hcz6_1 : w5.cell? ⟨gb1001, 1, none⟩ = some (.slice A0_1 l0_1.length c0_1) := (blk_cell BK1001.out 1).trans rfl; have hcz6_2 : w5.cell? ⟨gb1001, 2, none⟩ = some (.string a0_2) := (blk_cell BK1001.out 2).trans rfl; have hcz6_3 : w5.cell? ⟨gb1001, 3, none⟩ = some (.string a0_3) := (blk_cell BK1001.out 3).trans rfl; have hcz6_4 : w5.cell? ⟨gb1001, 4, none⟩ = some (.string a0_4) := (blk_cell BK1001.out 4).trans rfl; have hcz6_5 : w5.cell? ⟨gb1001, 5, none⟩ = some (.string a0_5) := (blk_cell BK1001.out 5).trans rfl; have hcz6_6 : w5.cell? ⟨gb1001, 6, none⟩ = some (.int .i64 a0_6) := (blk_cell BK1001.out 6).trans rfl; have hfz6_0 := bf_ BK1001 0; have hfz6_1 := bf_ BK1001 1; have hfz6_2 := bf_ BK1001 2; have hfz6_3 := bf_ BK1001 3; have hfz6_4 := bf_ BK1001 4; have hfz6_5 := bf_ BK1001 5; have hfz6_6 := bf_ BK1001 6) | ((with_reducible refine gate_callee (f := 32) rfl ?_); refine goesL_ (some 4) rfl rfl Tryd.func32 (by kernel_rfl) rfl #[.agg #[.int .i64 a0_0, .slice A0_1 l0_1.length c0_1, .string a0_2, .string a0_3, .string a0_4, .string a0_5, .int .i64 a0_6]] rfl ag_ ?_; (with_reducible refine (spec_GoodRelabel.calls k a0_0 _ _ l0_1 a0_2 a0_3 a0_4 a0_5 a0_6 true _ ?side1 ?side2 A2.out).mono ?_); (case side1 => exact cc_ (Kd.C_below HR0_1.out HB.out)); (case side2 => exact HC0_1.out); rintro e w7 ⟨rfl, hb⟩; refine ⟨_, rfl, ?_⟩; replace BK1001 := am_ (blk_below (g := gb1001) (vk_ BK1001) hb); replace HB := am_ (below_step bg_ hb); (try clear hb); (try clear hb2); (try clear hk); (try clear hi); have hcz8_0 : w7.cell? ⟨gb1001, 0, none⟩ = some (.int .i64 a0_0) := (blk_cell BK1001.out 0).trans rfl; have hcz8_1 : w7.cell? ⟨gb1001, 1, none⟩ = some (.slice A0_1 l0_1.length c0_1) := (blk_cell BK1001.out 1).trans rfl; have hcz8_2 : w7.cell? ⟨gb1001, 2, none⟩ = some (.string a0_2) := (blk_cell BK1001.out 2).trans rfl; have hcz8_3 : w7.cell? ⟨gb1001, 3, none⟩ = some (.string a0_3) := (blk_cell BK1001.out 3).trans rfl; have hcz8_4 : w7.cell? ⟨gb1001, 4, none⟩ = some (.string a0_4) := (blk_cell BK1001.out 4).trans rfl; have hcz8_5 : w7.cell? ⟨gb1001, 5, none⟩ = some (.string a0_5) := (blk_cell BK1001.out 5).trans rfl; have hcz8_6 : w7.cell? ⟨gb1001, 6, none⟩ = some (.int .i64 a0_6) := (blk_cell BK1001.out 6).trans rfl; have hfz8_0 := bf_ BK1001 0; have hfz8_1 := bf_ BK1001 1; have hfz8_2 := bf_ BK1001 2; have hfz8_3 := bf_ BK1001 3; have hfz8_4 := bf_ BK1001 4; have hfz8_5 := bf_ BK1001 5; have hfz8_6 := bf_ BK1001 6) | ((with_reducible refine gate_callee (f := 33) rfl ?_); refine goesL_ (some 7) rfl rfl Tryd.func33 (by kernel_rfl) rfl #[.agg #[.int .i64 a0_0, .slice A0_1 l0_1.length c0_1, .string a0_2, .string a0_3, .string a0_4, .string a0_5, .int .i64 a0_6]] rfl ag_ ?_; (with_reducible refine (spec_l4Text.calls k a0_0 _ _ l0_1 a0_2 a0_3 a0_4 a0_5 a0_6 t1003 _ ?side1 ?side2 A4.out).mono ?_); (case side1 => exact cc_ (Kd.C_below HR0_1.out HB.out)); (case side2 => exact HC0_1.out); rintro e w9 ⟨rfl, hb⟩; refine ⟨_, rfl, ?_⟩; replace BK1001 := am_ (blk_below (g := gb1001) (vk_ BK1001) hb); replace HB := am_ (below_step bg_ hb); (try clear hb); (try clear hb2); (try clear hk); (try clear hi)))
  go_ret
  exact ⟨rf_, bg_⟩
 ·replace c3 := Bool.eq_false_iff.mpr c3
  subst c3
  have H1 : (some (⟨#[]⟩ : ByteArray)) = some r := by rw [if_neg (show ¬ (false = true) by decide)] at H; exact H
  clear H
  have H := H1
  clear H1
  obtain rfl := Option.some.inj H
  go_enter Tryd.func16, Tryd.ntmps16
  go_wp2_with (first | ((with_reducible refine gate_dst (N := 1) rfl ?_); refine bx_ 1 #[.int .i64 a0_0, .slice A0_1 l0_1.length c0_1, .string a0_2, .string a0_3, .string a0_4, .string a0_5, .int .i64 a0_6] 38 ?_; intro gb1001 hg w10 hbox hb; have BK1001 := am_ (hbox); have GW1001 := am_ (gs_ hg : w.heap.size ≤ gb1001); replace HB := am_ (below_step bl_ hb); have GE1001 := GW1001; clear hb hbox hg; have hcz11_0 : w10.cell? ⟨gb1001, 0, none⟩ = some (.int .i64 a0_0) := (blk_cell BK1001.out 0).trans rfl; have hcz11_1 : w10.cell? ⟨gb1001, 1, none⟩ = some (.slice A0_1 l0_1.length c0_1) := (blk_cell BK1001.out 1).trans rfl; have hcz11_2 : w10.cell? ⟨gb1001, 2, none⟩ = some (.string a0_2) := (blk_cell BK1001.out 2).trans rfl; have hcz11_3 : w10.cell? ⟨gb1001, 3, none⟩ = some (.string a0_3) := (blk_cell BK1001.out 3).trans rfl; have hcz11_4 : w10.cell? ⟨gb1001, 4, none⟩ = some (.string a0_4) := (blk_cell BK1001.out 4).trans rfl; have hcz11_5 : w10.cell? ⟨gb1001, 5, none⟩ = some (.string a0_5) := (blk_cell BK1001.out 5).trans rfl; have hcz11_6 : w10.cell? ⟨gb1001, 6, none⟩ = some (.int .i64 a0_6) := (blk_cell BK1001.out 6).trans rfl; have hfz11_0 := bf_ BK1001 0; have hfz11_1 := bf_ BK1001 1; have hfz11_2 := bf_ BK1001 2; have hfz11_3 := bf_ BK1001 3; have hfz11_4 := bf_ BK1001 4; have hfz11_5 := bf_ BK1001 5; have hfz11_6 := bf_ BK1001 6) | ((with_reducible refine gate_callee (f := 32) rfl ?_); refine goesL_ (some 4) rfl rfl Tryd.func32 (by kernel_rfl) rfl #[.agg #[.int .i64 a0_0, .slice A0_1 l0_1.length c0_1, .string a0_2, .string a0_3, .string a0_4, .string a0_5, .int .i64 a0_6]] rfl ag_ ?_; (with_reducible refine (spec_GoodRelabel.calls k a0_0 _ _ l0_1 a0_2 a0_3 a0_4 a0_5 a0_6 false _ ?side1 ?side2 A2.out).mono ?_); (case side1 => exact cc_ (Kd.C_below HR0_1.out HB.out)); (case side2 => exact HC0_1.out); rintro e w12 ⟨rfl, hb⟩; refine ⟨_, rfl, ?_⟩; replace BK1001 := am_ (blk_below (g := gb1001) (vk_ BK1001) hb); replace HB := am_ (below_step bg_ hb); (try clear hb); (try clear hb2); (try clear hk); (try clear hi)))
  go_ret
  exact ⟨rf_, bg_⟩

/-! ### laws_toStringS: function 34 -/
def laws_toStringS.l0 : Nat → List ByteArray → List ByteArray → Int → Option (List ByteArray)
 | 0, _, _, _ => none
 | k + 1, x0, x3, x4 => if x4 < (x0.length : Int) then (if 0 ≤ x4 then (if x4 < (x3.length : Int) then (laws_toStringS.l0 k x0 (x3.set (x4 : Int).toNat (rdOf ByteArray.empty x0 x4)) (wrap64 (x4 + 1))) else (none)) else (none)) else (some x3)
def laws_toStringS.f (k : Nat) (l0 : List ByteArray) : Option (List ByteArray) := if 0 ≤ (l0.length : Int) then (if ((l0.length : Int) : Int).toNat ≤ 17592186044416 then (laws_toStringS.l0 k l0 (List.replicate ((l0.length : Int) : Int).toNat (⟨#[]⟩ : ByteArray)) 0) else (none)) else (none)
theorem laws_toStringS.mono_l : ∀ k, (∀ y0 y1 y2, LeO (laws_toStringS.l0 k y0 y1 y2) (laws_toStringS.l0 (k + 1) y0 y1 y2))
 | 0 => fun _ _ _ r h => by simp [laws_toStringS.l0] at h
 | k + 1 => by
  have ih0 := laws_toStringS.mono_l k
  ·intro y0 y1 y2
   unfold laws_toStringS.l0
   repeat' first
   | with_reducible first | exact ih0 _ _ _ | exact LeO.refl _ | exact LeO.none _ | refine LeO.ite ?_ ?_ | refine LeO.bind ?_ (fun _ => ?_)
   | exact ih0 _ _ _
   | exact LeO.none _
   | refine LeO.ite ?_ ?_
   | refine LeO.bind ?_ (fun _ => ?_)
theorem laws_toStringS.mono : ∀ a0 k, LeO (laws_toStringS.f k a0) (laws_toStringS.f (k + 1) a0) := by
 intro a0 k
 have ih0 := laws_toStringS.mono_l k
 unfold laws_toStringS.f
 repeat' first
   | with_reducible first | exact ih0 _ _ _ | exact LeO.refl _ | exact LeO.none _ | refine LeO.ite ?_ ?_ | refine LeO.bind ?_ (fun _ => ?_)
   | exact ih0 _ _ _
   | exact LeO.none _
   | refine LeO.ite ?_ ?_
   | refine LeO.bind ?_ (fun _ => ?_)
set_option maxHeartbeats 8000000 in
set_option maxRecDepth 100000 in
theorem laws_toStringS.calls (k : Nat) (A0 : Option Addr) (c0 : Nat) (l0 : List ByteArray) (r : List ByteArray) (w : World) (hr0 : Kd.C Kd.string w A0 l0.length l0) (hc0 : l0.length ≤ c0) (h : laws_toStringS.f k l0 = some r) :
  Calls Tryd.prog 34 #[.slice A0 l0.length c0] w fun e w' => ∃ v0_ : Value, e = .returned (v0_) ∧ Kd.R Kd.string 9 w' w.heap.size (fun _ => True) v0_ r ∧ Below w.heap.size w w' := by
 have HR0 := am_ hr0
 have HC0 := am_ hc0
 clear hr0 hc0
 have HB := am_ (Below.refl w.heap.size w)
 have H : (if 0 ≤ (l0.length : Int) then (if ((l0.length : Int) : Int).toNat ≤ 17592186044416 then (laws_toStringS.l0 k l0 (List.replicate ((l0.length : Int) : Int).toNat (⟨#[]⟩ : ByteArray)) 0) else (none)) else (none)) = some r := h
 clear h
 by_cases c2 : 0 ≤ (l0.length : Int)
 ·rw [if_pos c2] at H
  have c2b0 := eq_true c2
  have c2b1 : decide (0 ≤ (l0.length : Int)) = true := decide_eq_true c2
  clear c2
  by_cases c3 : ((l0.length : Int) : Int).toNat ≤ 17592186044416
  ·rw [if_pos c3] at H
   have c3b0 := eq_true c3
   have c3b1 : decide (((l0.length : Int) : Int).toNat ≤ 17592186044416) = true := decide_eq_true c3
   clear c3
   obtain ⟨y1001, hy1001⟩ : ∃ y_ : List ByteArray, y_ = (List.replicate ((l0.length : Int) : Int).toNat (⟨#[]⟩ : ByteArray)) := ⟨_, rfl⟩
   replace H : (laws_toStringS.l0 k l0 y1001 0) = some r := by first | (rw [hy1001]; with_reducible exact H) | (have H2_ := (Option.bind_some _ _).symm.trans H; rw [hy1001]; with_reducible exact H2_) | (have H2_ := (Option.bind_some _ _).symm.trans H; with_reducible exact H2_) | with_reducible exact H | (rw [hy1001]; exact H) | exact H
   have Ny1001 := am_ hy1001
   clear hy1001
   have H' := am_ H
   clear H
   go_enter Tryd.func34, Tryd.ntmps34
   go_wp2_with (first | ((with_reducible refine gate_dst (N := 7) rfl ?_); refine Kd.R_make Kd.string _ 9 rfl (N := 7) rfl 33 _ _ rfl (l0.length : Int) rfl rfl Tryd.underlying33 (.string ⟨#[]⟩) 16 info9 rfl (by decide) (by omega) (⟨#[]⟩ : ByteArray) (ok := fun _ => True) (okp := fun _ => True) rfl (fun _ hk => hk) trivial (od_) (Nat.le_trans (Nat.mul_le_mul_right _ (od_ : (l0.length : Int).toNat ≤ 17592186044416)) (by omega)) (Below.refl _ _) (Nat.le_refl _) ?_; intro v1002 w4 ho5 hb hg_ hnew_; clear hg_ hnew_; (first | rw [← Ny1001.out] at ho5 | (simp only [Int.reduceToNat] at ho5; rw [← Ny1001.out] at ho5)); have HO1003 := am_ (Kd.R_lower ho5 (below_size bl_)); replace HB := am_ (below_step bl_ hb); clear hb ho5))
   go_loopg [4] k (fun kq v4 w' => ∃ (x3_1 : List ByteArray) (x4_1 : Int), v4 = .int .i64 x4_1 ∧ Aside0 (laws_toStringS.l0 kq l0 x3_1 x4_1 = some r) ∧ Aside0 (kq ≤ k) ∧ Aside0 (Kd.R Kd.string 9 w' w.heap.size (fun _ => True) v1002 x3_1) ∧ Aside0 (Below w.heap.size w w'))
   case atStart => exact ⟨(y1001), (0), rs_, H', ⟨Nat.le_refl _⟩, ⟨ro_ HO1003⟩, ⟨bl_⟩⟩
   case round =>
    clear H'
    try clear c2
    try clear c2b0
    try clear c2b1
    try clear p2
    try clear c3
    try clear c3b0
    try clear c3b1
    obtain ⟨x3_1, x4_1, rfl, HA, HK1, HO_3, HB⟩ := hrel
    cases gk with
    | zero => exact absurd HA.out (by simp [laws_toStringS.l0])
    | succ k1 =>
     have H := HA.out
     clear HA
     simp only [laws_toStringS.l0] at H
     by_cases c6 : x4_1 < (l0.length : Int)
     ·rw [if_pos c6] at H
      have c6b0 : decide (x4_1 < (l0.length : Int)) = true := decide_eq_true c6
      clear c6
      by_cases c7 : 0 ≤ x4_1
      ·rw [if_pos c7] at H
       have c7b0 : decide (0 ≤ x4_1) = true := decide_eq_true c7
       clear c7
       by_cases c8 : x4_1 < (x3_1.length : Int)
       ·rw [if_pos c8] at H
        have c8b0 : decide (x4_1 < (x3_1.length : Int)) = true := decide_eq_true c8
        clear c8
        obtain ⟨y1005, hy1005⟩ : ∃ y_ : List ByteArray, y_ = (x3_1.set (x4_1 : Int).toNat (rdOf ByteArray.empty l0 x4_1)) := ⟨_, rfl⟩
        replace H : (laws_toStringS.l0 k1 l0 y1005 (wrap64 (x4_1 + 1))) = some r := by first | (rw [hy1005]; with_reducible exact H) | (have H2_ := (Option.bind_some _ _).symm.trans H; rw [hy1005]; with_reducible exact H2_) | (have H2_ := (Option.bind_some _ _).symm.trans H; with_reducible exact H2_) | with_reducible exact H | (rw [hy1005]; exact H) | exact H
        have Ny1005 := am_ hy1005
        clear hy1005
        have H' := am_ H
        clear H
        have p1004 : 0 ≤ (x4_1 : Int) := od_
        have q1004 : x4_1 < (l0.length : Int) := od_
        obtain ⟨ad1004, e1004, hx1004_0⟩ := Kd.at_string HR0.out x4_1 p1004 q1004
        cases e1004
        replace hx1004_0 := kp_ HB hx1004_0
        replace p1004 := eq_true p1004
        replace q1004 := eq_true q1004
        have p9 : 0 ≤ (x4_1 : Int) := od_
        have q9 : (x4_1 : Int) < ((x3_1.length : Int) : Int) := od_
        obtain ⟨go9, co9, eo9, gb9, gl9, cl9, HG9⟩ := Kd.R_form HO_3.out (by omega)
        (first | cases eo9 | (injection eo9 with ea_ en_ ec_; (first | subst ea_ | (injection ea_ with ea_; subst ea_)); subst ec_; clear en_))
        have GB9 := am_ gb9
        have GG9 := am_ HG9
        clear gb9 gl9 HG9
        obtain ⟨hx9_0, hf9_0⟩ := Kd.R_celln (⟨#[]⟩ : ByteArray) HO_3.out (x4_1 : Int) p9 q9
        replace p9 := eq_true p9
        replace q9 := eq_true q9
        have HP10 := Kd.R_putg HO_3.out (x4_1 : Int) (rdOf ByteArray.empty l0 x4_1)
        go_wp2_with (first | ((with_reducible refine gate_store (t := 9) (p := 20) rfl ?_); refine store_event (t := 9) (p := 20) (v := ?vo_w11) (w1 := (wr.setCell ⟨go9, (x4_1 : Int).toNat, none⟩ (.string (rdOf ByteArray.empty l0 x4_1)))) ?hg ?ho ?hn ?hr ?_; (case ho => rfl); (case hg => rfl); (case hn => rfl); (case hr => first | (go_simp; done) | (go_simp; rfl) | ((try (obtain ⟨_, _, e_⟩ := Kd.R_slice HO1003.out; subst e_)); go_simp; first | done | rfl)); intro w11 hw; have hg : wr.grownBy w11 (some go9) := (by rw [hw]; exact HP10.2); have hp_ : Kd.R Kd.string 9 w11 w.heap.size (fun _ => True) (.slice (some ⟨go9, 0, none⟩) x3_1.length co9) y1005 := (by rw [hw, Ny1005.out]; exact HP10.1); clear HP10; replace HO_3 := am_ (hp_); replace HB := am_ ((by rw [hw]; exact below_set (HB.out) GB9.out : Below w.heap.size w w11)); clear hg hw hp_))
        go_roundg k1
        case measure => have := HK1.out; omega
        case rel => exact ⟨(y1005), (wrap64 (x4_1 + 1)), rs_, H', ⟨by have := HK1.out; omega⟩, ⟨ro_ HO_3⟩, ⟨bl_⟩⟩
       ·rw [if_neg c8] at H
        exact absurd H (by simp)
      ·rw [if_neg c7] at H
       exact absurd H (by simp)
     ·rw [if_neg c6] at H
      have c6b0 : decide (x4_1 < (l0.length : Int)) = false := decide_eq_false c6
      clear c6
      obtain rfl := Option.some.inj H
      go_wp2
      go_ret
      exact ⟨_, rf_, by (with_reducible repeat (first | apply Kd.R_alloc | apply Kd.R_drewN | apply Kd.R_drew)); exact HO_3.out, bl_⟩
  ·rw [if_neg c3] at H
   exact absurd H (by simp)
 ·rw [if_neg c2] at H
  exact absurd H (by simp)

/-! ### laws_toRelabel: function 17 -/
def laws_toRelabel.f (k : Nat) (a0_0 : Int) (l0_1 : List ByteArray) (a0_2 : ByteArray) (a0_3 : ByteArray) (a0_4 : ByteArray) (a0_5 : ByteArray) (a0_6 : Int) : Option (Int × List ByteArray × ByteArray × ByteArray × ByteArray × ByteArray × Int) := (laws_toStringS.f k l0_1).bind fun t1004 => (some (a0_0, t1004, a0_2, a0_3, a0_4, a0_5, a0_6))
theorem laws_toRelabel.mono : ∀ a0 a1 a2 a3 a4 a5 a6 k, LeO (laws_toRelabel.f k a0 a1 a2 a3 a4 a5 a6) (laws_toRelabel.f (k + 1) a0 a1 a2 a3 a4 a5 a6) := by
 intro a0 a1 a2 a3 a4 a5 a6 k
 unfold laws_toRelabel.f
 repeat' first
   | with_reducible first | exact laws_toStringS.mono _ _ | exact LeO.refl _ | exact LeO.none _ | refine LeO.ite ?_ ?_ | refine LeO.bind ?_ (fun _ => ?_)
   | exact laws_toStringS.mono _ _
   | exact LeO.none _
   | refine LeO.ite ?_ ?_
   | refine LeO.bind ?_ (fun _ => ?_)
set_option maxHeartbeats 8000000 in
set_option maxRecDepth 100000 in
theorem laws_toRelabel.calls (k : Nat) (a0_0 : Int) (A0_1 : Option Addr) (c0_1 : Nat) (l0_1 : List ByteArray) (a0_2 : ByteArray) (a0_3 : ByteArray) (a0_4 : ByteArray) (a0_5 : ByteArray) (a0_6 : Int) (r1 : Int) (r2 : List ByteArray) (r3 : ByteArray) (r4 : ByteArray) (r5 : ByteArray) (r6 : ByteArray) (r7 : Int) (w : World) (hr0_1 : Kd.C Kd.string w A0_1 l0_1.length l0_1) (hc0_1 : l0_1.length ≤ c0_1) (h : laws_toRelabel.f k a0_0 l0_1 a0_2 a0_3 a0_4 a0_5 a0_6 = some (r1, r2, r3, r4, r5, r6, r7)) :
  Calls Tryd.prog 17 #[.agg #[.int .i64 a0_0, .slice A0_1 l0_1.length c0_1, .string a0_2, .string a0_3, .string a0_4, .string a0_5, .int .i64 a0_6]] w fun e w' => ∃ v1_ : Value, e = .returned (.agg #[.int .i64 r1, v1_, .string r3, .string r4, .string r5, .string r6, .int .i64 r7]) ∧ Kd.R Kd.string 9 w' w.heap.size (fun _ => True) v1_ r2 ∧ Below w.heap.size w w' := by
 have hu35 := Tryd.underlying35
 have hu38 := Tryd.underlying38
 have HR0_1 := am_ hr0_1
 have HC0_1 := am_ hc0_1
 clear hr0_1 hc0_1
 have HB := am_ (Below.refl w.heap.size w)
 have H : ((laws_toStringS.f k l0_1).bind fun t1004 => (some (a0_0, t1004, a0_2, a0_3, a0_4, a0_5, a0_6))) = some (r1, r2, r3, r4, r5, r6, r7) := h
 clear h
 replace H := Option.bind_eq_some_iff.mp H
 obtain ⟨t1004, A20, H⟩ := H
 replace H : (some (a0_0, t1004, a0_2, a0_3, a0_4, a0_5, a0_6)) = some (r1, r2, r3, r4, r5, r6, r7) := H
 have A2 := am_ A20
 clear A20
 simp only [Option.some.injEq, Prod.mk.injEq] at H
 obtain ⟨rfl, rfl, rfl, rfl, rfl, rfl, rfl⟩ := H
 go_enter Tryd.func17, Tryd.ntmps17
 go_wp2_with (first | ((with_reducible refine gate_dst (N := 1) rfl ?_); refine bx_ 1 #[.int .i64 a0_0, .slice A0_1 l0_1.length c0_1, .string a0_2, .string a0_3, .string a0_4, .string a0_5, .int .i64 a0_6] 35 ?_; intro gb1001 hg w3 hbox hb; have BK1001 := am_ (hbox); have GW1001 := am_ (gs_ hg : w.heap.size ≤ gb1001); replace HB := am_ (below_step bl_ hb); have GE1001 := GW1001; clear hb hbox hg) | ((with_reducible refine gate_dst (N := 2) rfl ?_); refine bx_ 2 #[.int .i64 0, .slice none 0 0, .string (⟨#[]⟩ : ByteArray), .string (⟨#[]⟩ : ByteArray), .string (⟨#[]⟩ : ByteArray), .string (⟨#[]⟩ : ByteArray), .int .i64 0] 38 ?_; intro gb1002 hg w4 hbox hb; have BK1002 := am_ (hbox); have GW1002 := am_ (gg_ hg : w.heap.size ≤ gb1002); have NB1001_1002 := am_ ((by rw [hg]; exact Nat.ne_of_lt (blk_lt (g := gb1001) (o := .cells #[.int .i64 a0_0, .slice A0_1 l0_1.length c0_1, .string a0_2, .string a0_3, .string a0_4, .string a0_5, .int .i64 a0_6] 35 (0, 0)) (vk_ BK1001)) : gb1001 ≠ gb1002)); have NB1002_1001 := am_ ((by rw [hg]; exact Nat.ne_of_gt (blk_lt (g := gb1001) (o := .cells #[.int .i64 a0_0, .slice A0_1 l0_1.length c0_1, .string a0_2, .string a0_3, .string a0_4, .string a0_5, .int .i64 a0_6] 35 (0, 0)) (vk_ BK1001)) : gb1002 ≠ gb1001)); replace BK1001 := am_ (blk_below (g := gb1001) (vk_ BK1001) hb); replace HB := am_ (below_step bg_ hb); have GE1002 := GW1002; clear hb hbox hg) | ((with_reducible refine gate_dst (N := 3) rfl ?_); refine bx_ 3 #[.int .i64 0, .slice none 0 0, .string (⟨#[]⟩ : ByteArray), .string (⟨#[]⟩ : ByteArray), .string (⟨#[]⟩ : ByteArray), .string (⟨#[]⟩ : ByteArray), .int .i64 0] 38 ?_; intro gb1003 hg w5 hbox hb; have BK1003 := am_ (hbox); have GW1003 := am_ (gg_ hg : w.heap.size ≤ gb1003); have NB1001_1003 := am_ ((by rw [hg]; exact Nat.ne_of_lt (blk_lt (g := gb1001) (o := .cells #[.int .i64 a0_0, .slice A0_1 l0_1.length c0_1, .string a0_2, .string a0_3, .string a0_4, .string a0_5, .int .i64 a0_6] 35 (0, 0)) (vk_ BK1001)) : gb1001 ≠ gb1003)); have NB1003_1001 := am_ ((by rw [hg]; exact Nat.ne_of_gt (blk_lt (g := gb1001) (o := .cells #[.int .i64 a0_0, .slice A0_1 l0_1.length c0_1, .string a0_2, .string a0_3, .string a0_4, .string a0_5, .int .i64 a0_6] 35 (0, 0)) (vk_ BK1001)) : gb1003 ≠ gb1001)); have NB1002_1003 := am_ ((by rw [hg]; exact Nat.ne_of_lt (blk_lt (g := gb1002) (o := .cells #[.int .i64 0, .slice none 0 0, .string (⟨#[]⟩ : ByteArray), .string (⟨#[]⟩ : ByteArray), .string (⟨#[]⟩ : ByteArray), .string (⟨#[]⟩ : ByteArray), .int .i64 0] 38 (0, 0)) (vk_ BK1002)) : gb1002 ≠ gb1003)); have NB1003_1002 := am_ ((by rw [hg]; exact Nat.ne_of_gt (blk_lt (g := gb1002) (o := .cells #[.int .i64 0, .slice none 0 0, .string (⟨#[]⟩ : ByteArray), .string (⟨#[]⟩ : ByteArray), .string (⟨#[]⟩ : ByteArray), .string (⟨#[]⟩ : ByteArray), .int .i64 0] 38 (0, 0)) (vk_ BK1002)) : gb1003 ≠ gb1002)); replace BK1001 := am_ (blk_below (g := gb1001) (vk_ BK1001) hb); replace BK1002 := am_ (blk_below (g := gb1002) (vk_ BK1002) hb); replace HB := am_ (below_step bg_ hb); have GE1003 := GW1003; clear hb hbox hg; have hnb6 := NB1001_1002.out; have hnc6 := NB1002_1001.out; have hnb7 := NB1001_1003.out; have hnc7 := NB1003_1001.out; have hcz8_0 : w5.cell? ⟨gb1001, 0, none⟩ = some (.int .i64 a0_0) := (blk_cell BK1001.out 0).trans rfl; have hcz8_1 : w5.cell? ⟨gb1001, 1, none⟩ = some (.slice A0_1 l0_1.length c0_1) := (blk_cell BK1001.out 1).trans rfl; have hcz8_2 : w5.cell? ⟨gb1001, 2, none⟩ = some (.string a0_2) := (blk_cell BK1001.out 2).trans rfl; have hcz8_3 : w5.cell? ⟨gb1001, 3, none⟩ = some (.string a0_3) := (blk_cell BK1001.out 3).trans rfl; have hcz8_4 : w5.cell? ⟨gb1001, 4, none⟩ = some (.string a0_4) := (blk_cell BK1001.out 4).trans rfl; have hcz8_5 : w5.cell? ⟨gb1001, 5, none⟩ = some (.string a0_5) := (blk_cell BK1001.out 5).trans rfl; have hcz8_6 : w5.cell? ⟨gb1001, 6, none⟩ = some (.int .i64 a0_6) := (blk_cell BK1001.out 6).trans rfl; have hfz8_0 := bf_ BK1001 0; have hfz8_1 := bf_ BK1001 1; have hfz8_2 := bf_ BK1001 2; have hfz8_3 := bf_ BK1001 3; have hfz8_4 := bf_ BK1001 4; have hfz8_5 := bf_ BK1001 5; have hfz8_6 := bf_ BK1001 6; have hnb9 := NB1003_1002.out; have hnc9 := NB1002_1003.out; have hcz10_0 : w5.cell? ⟨gb1003, 0, none⟩ = some (.int .i64 0) := (blk_cell BK1003.out 0).trans rfl; have hcz10_1 : w5.cell? ⟨gb1003, 1, none⟩ = some (.slice none 0 0) := (blk_cell BK1003.out 1).trans rfl; have hcz10_2 : w5.cell? ⟨gb1003, 2, none⟩ = some (.string (⟨#[]⟩ : ByteArray)) := (blk_cell BK1003.out 2).trans rfl; have hcz10_3 : w5.cell? ⟨gb1003, 3, none⟩ = some (.string (⟨#[]⟩ : ByteArray)) := (blk_cell BK1003.out 3).trans rfl; have hcz10_4 : w5.cell? ⟨gb1003, 4, none⟩ = some (.string (⟨#[]⟩ : ByteArray)) := (blk_cell BK1003.out 4).trans rfl; have hcz10_5 : w5.cell? ⟨gb1003, 5, none⟩ = some (.string (⟨#[]⟩ : ByteArray)) := (blk_cell BK1003.out 5).trans rfl; have hcz10_6 : w5.cell? ⟨gb1003, 6, none⟩ = some (.int .i64 0) := (blk_cell BK1003.out 6).trans rfl; have hfz10_0 := bf_ BK1003 0; have hfz10_1 := bf_ BK1003 1; have hfz10_2 := bf_ BK1003 2; have hfz10_3 := bf_ BK1003 3; have hfz10_4 := bf_ BK1003 4; have hfz10_5 := bf_ BK1003 5; have hfz10_6 := bf_ BK1003 6) | ((with_reducible refine gate_callee (f := 34) rfl ?_); refine goesL_ (some 9) rfl rfl Tryd.func34 (by kernel_rfl) rfl #[.slice A0_1 l0_1.length c0_1] rfl ag_ ?_; (with_reducible refine (laws_toStringS.calls k _ _ l0_1 t1004 _ ?side1 ?side2 A2.out).mono ?_); (case side1 => exact Kd.C_below HR0_1.out bg_); (case side2 => exact HC0_1.out); rintro e w11 ⟨v1005, rfl, ho0, hb⟩; refine ⟨_, rfl, ?_⟩; have HO1006 := am_ (Kd.R_lower ho0 (below_size bg_)); replace BK1001 := am_ (blk_below (g := gb1001) (o := .cells #[.int .i64 a0_0, .slice A0_1 l0_1.length c0_1, .string a0_2, .string a0_3, .string a0_4, .string a0_5, .int .i64 a0_6] 35 (0, 0)) (by (with_reducible repeat (first | refine blk_drewN ?_ _ | refine blk_drew ?_ | refine blk_alloc ?_ _)); refine blk_far ?_ NB1001_1003.out _; (with_reducible repeat (first | refine blk_drewN ?_ _ | refine blk_drew ?_ | refine blk_alloc ?_ _)); exact BK1001.out) hb); replace BK1002 := am_ (blk_below (g := gb1002) (o := .cells #[.int .i64 0, .slice none 0 0, .string (⟨#[]⟩ : ByteArray), .string (⟨#[]⟩ : ByteArray), .string (⟨#[]⟩ : ByteArray), .string (⟨#[]⟩ : ByteArray), .int .i64 0] 38 (0, 0)) (by (with_reducible repeat (first | refine blk_drewN ?_ _ | refine blk_drew ?_ | refine blk_alloc ?_ _)); refine blk_far ?_ NB1002_1003.out _; (with_reducible repeat (first | refine blk_drewN ?_ _ | refine blk_drew ?_ | refine blk_alloc ?_ _)); exact BK1002.out) hb); replace BK1003 := am_ (blk_below (g := gb1003) (o := .cells #[.int .i64 a0_0, .slice none 0 0, .string (⟨#[]⟩ : ByteArray), .string (⟨#[]⟩ : ByteArray), .string (⟨#[]⟩ : ByteArray), .string (⟨#[]⟩ : ByteArray), .int .i64 0] 38 (0, 0)) (by (with_reducible repeat (first | refine blk_drewN ?_ _ | refine blk_drew ?_ | refine blk_alloc ?_ _)); refine blk_put (cs := #[.int .i64 0, .slice none 0 0, .string (⟨#[]⟩ : ByteArray), .string (⟨#[]⟩ : ByteArray), .string (⟨#[]⟩ : ByteArray), .string (⟨#[]⟩ : ByteArray), .int .i64 0]) ?_ 0 _ rfl; (with_reducible repeat (first | refine blk_drewN ?_ _ | refine blk_drew ?_ | refine blk_alloc ?_ _)); exact BK1003.out) hb); replace HB := am_ (below_step bg_ hb); (try clear hb); (try clear hb2); (try clear hk); (try clear hi); (try clear ho0); obtain ⟨Ao12, co12, eo12⟩ := Kd.R_slice HO1006.out; subst eo12; have hcz13_0 : w11.cell? ⟨gb1003, 0, none⟩ = some (.int .i64 a0_0) := (blk_cell BK1003.out 0).trans rfl; have hcz13_1 : w11.cell? ⟨gb1003, 1, none⟩ = some (.slice none 0 0) := (blk_cell BK1003.out 1).trans rfl; have hcz13_2 : w11.cell? ⟨gb1003, 2, none⟩ = some (.string (⟨#[]⟩ : ByteArray)) := (blk_cell BK1003.out 2).trans rfl; have hcz13_3 : w11.cell? ⟨gb1003, 3, none⟩ = some (.string (⟨#[]⟩ : ByteArray)) := (blk_cell BK1003.out 3).trans rfl; have hcz13_4 : w11.cell? ⟨gb1003, 4, none⟩ = some (.string (⟨#[]⟩ : ByteArray)) := (blk_cell BK1003.out 4).trans rfl; have hcz13_5 : w11.cell? ⟨gb1003, 5, none⟩ = some (.string (⟨#[]⟩ : ByteArray)) := (blk_cell BK1003.out 5).trans rfl; have hcz13_6 : w11.cell? ⟨gb1003, 6, none⟩ = some (.int .i64 0) := (blk_cell BK1003.out 6).trans rfl; have hfz13_0 := bf_ BK1003 0; have hfz13_1 := bf_ BK1003 1; have hfz13_2 := bf_ BK1003 2; have hfz13_3 := bf_ BK1003 3; have hfz13_4 := bf_ BK1003 4; have hfz13_5 := bf_ BK1003 5; have hfz13_6 := bf_ BK1003 6; have hcz14_0 : w11.cell? ⟨gb1001, 0, none⟩ = some (.int .i64 a0_0) := (blk_cell BK1001.out 0).trans rfl; have hcz14_1 : w11.cell? ⟨gb1001, 1, none⟩ = some (.slice A0_1 l0_1.length c0_1) := (blk_cell BK1001.out 1).trans rfl; have hcz14_2 : w11.cell? ⟨gb1001, 2, none⟩ = some (.string a0_2) := (blk_cell BK1001.out 2).trans rfl; have hcz14_3 : w11.cell? ⟨gb1001, 3, none⟩ = some (.string a0_3) := (blk_cell BK1001.out 3).trans rfl; have hcz14_4 : w11.cell? ⟨gb1001, 4, none⟩ = some (.string a0_4) := (blk_cell BK1001.out 4).trans rfl; have hcz14_5 : w11.cell? ⟨gb1001, 5, none⟩ = some (.string a0_5) := (blk_cell BK1001.out 5).trans rfl; have hcz14_6 : w11.cell? ⟨gb1001, 6, none⟩ = some (.int .i64 a0_6) := (blk_cell BK1001.out 6).trans rfl; have hfz14_0 := bf_ BK1001 0; have hfz14_1 := bf_ BK1001 1; have hfz14_2 := bf_ BK1001 2; have hfz14_3 := bf_ BK1001 3; have hfz14_4 := bf_ BK1001 4; have hfz14_5 := bf_ BK1001 5; have hfz14_6 := bf_ BK1001 6; have hcz15_0 : w11.cell? ⟨gb1002, 0, none⟩ = some (.int .i64 0) := (blk_cell BK1002.out 0).trans rfl; have hcz15_1 : w11.cell? ⟨gb1002, 1, none⟩ = some (.slice none 0 0) := (blk_cell BK1002.out 1).trans rfl; have hcz15_2 : w11.cell? ⟨gb1002, 2, none⟩ = some (.string (⟨#[]⟩ : ByteArray)) := (blk_cell BK1002.out 2).trans rfl; have hcz15_3 : w11.cell? ⟨gb1002, 3, none⟩ = some (.string (⟨#[]⟩ : ByteArray)) := (blk_cell BK1002.out 3).trans rfl; have hcz15_4 : w11.cell? ⟨gb1002, 4, none⟩ = some (.string (⟨#[]⟩ : ByteArray)) := (blk_cell BK1002.out 4).trans rfl; have hcz15_5 : w11.cell? ⟨gb1002, 5, none⟩ = some (.string (⟨#[]⟩ : ByteArray)) := (blk_cell BK1002.out 5).trans rfl; have hcz15_6 : w11.cell? ⟨gb1002, 6, none⟩ = some (.int .i64 0) := (blk_cell BK1002.out 6).trans rfl; have hfz15_0 := bf_ BK1002 0; have hfz15_1 := bf_ BK1002 1; have hfz15_2 := bf_ BK1002 2; have hfz15_3 := bf_ BK1002 3; have hfz15_4 := bf_ BK1002 4; have hfz15_5 := bf_ BK1002 5; have hfz15_6 := bf_ BK1002 6))
 refine bodyPost_ret (results_cell_row rfl _ _ gb1002 38 #[.int .i64 a0_0, .slice Ao12 t1004.length co12, .string a0_2, .string a0_3, .string a0_4, .string a0_5, .int .i64 a0_6] (0, 0) _ rfl (by (with_reducible repeat (first | refine blk_drewN ?_ _ | refine blk_drew ?_ | refine blk_alloc ?_ _)); refine blk_put (cs := #[.int .i64 a0_0, .slice Ao12 t1004.length co12, .string a0_2, .string a0_3, .string a0_4, .string a0_5, .int .i64 0]) ?_ 6 _ rfl; (with_reducible repeat (first | refine blk_drewN ?_ _ | refine blk_drew ?_ | refine blk_alloc ?_ _)); refine blk_put (cs := #[.int .i64 a0_0, .slice Ao12 t1004.length co12, .string a0_2, .string a0_3, .string a0_4, .string (⟨#[]⟩ : ByteArray), .int .i64 0]) ?_ 5 _ rfl; (with_reducible repeat (first | refine blk_drewN ?_ _ | refine blk_drew ?_ | refine blk_alloc ?_ _)); refine blk_put (cs := #[.int .i64 a0_0, .slice Ao12 t1004.length co12, .string a0_2, .string a0_3, .string (⟨#[]⟩ : ByteArray), .string (⟨#[]⟩ : ByteArray), .int .i64 0]) ?_ 4 _ rfl; (with_reducible repeat (first | refine blk_drewN ?_ _ | refine blk_drew ?_ | refine blk_alloc ?_ _)); refine blk_put (cs := #[.int .i64 a0_0, .slice Ao12 t1004.length co12, .string a0_2, .string (⟨#[]⟩ : ByteArray), .string (⟨#[]⟩ : ByteArray), .string (⟨#[]⟩ : ByteArray), .int .i64 0]) ?_ 3 _ rfl; (with_reducible repeat (first | refine blk_drewN ?_ _ | refine blk_drew ?_ | refine blk_alloc ?_ _)); refine blk_put (cs := #[.int .i64 a0_0, .slice Ao12 t1004.length co12, .string (⟨#[]⟩ : ByteArray), .string (⟨#[]⟩ : ByteArray), .string (⟨#[]⟩ : ByteArray), .string (⟨#[]⟩ : ByteArray), .int .i64 0]) ?_ 2 _ rfl; (with_reducible repeat (first | refine blk_drewN ?_ _ | refine blk_drew ?_ | refine blk_alloc ?_ _)); refine blk_put (cs := #[.int .i64 a0_0, .slice none 0 0, .string (⟨#[]⟩ : ByteArray), .string (⟨#[]⟩ : ByteArray), .string (⟨#[]⟩ : ByteArray), .string (⟨#[]⟩ : ByteArray), .int .i64 0]) ?_ 1 _ rfl; (with_reducible repeat (first | refine blk_drewN ?_ _ | refine blk_drew ?_ | refine blk_alloc ?_ _)); refine blk_put (cs := #[.int .i64 0, .slice none 0 0, .string (⟨#[]⟩ : ByteArray), .string (⟨#[]⟩ : ByteArray), .string (⟨#[]⟩ : ByteArray), .string (⟨#[]⟩ : ByteArray), .int .i64 0]) ?_ 0 _ rfl; (with_reducible repeat (first | refine blk_drewN ?_ _ | refine blk_drew ?_ | refine blk_alloc ?_ _)); refine blk_far ?_ NB1002_1003.out _; (with_reducible repeat (first | refine blk_drewN ?_ _ | refine blk_drew ?_ | refine blk_alloc ?_ _)); refine blk_far ?_ NB1002_1003.out _; (with_reducible repeat (first | refine blk_drewN ?_ _ | refine blk_drew ?_ | refine blk_alloc ?_ _)); refine blk_far ?_ NB1002_1003.out _; (with_reducible repeat (first | refine blk_drewN ?_ _ | refine blk_drew ?_ | refine blk_alloc ?_ _)); refine blk_far ?_ NB1002_1003.out _; (with_reducible repeat (first | refine blk_drewN ?_ _ | refine blk_drew ?_ | refine blk_alloc ?_ _)); refine blk_far ?_ NB1002_1003.out _; (with_reducible repeat (first | refine blk_drewN ?_ _ | refine blk_drew ?_ | refine blk_alloc ?_ _)); refine blk_far ?_ NB1002_1003.out _; (with_reducible repeat (first | refine blk_drewN ?_ _ | refine blk_drew ?_ | refine blk_alloc ?_ _)); exact BK1002.out) Tryd.underlying38 rfl (by kernel_rfl)) rfl ?_
 exact ⟨_, rf_, by (with_reducible repeat (first | apply Kd.R_alloc | apply Kd.R_drewN | apply Kd.R_drew)); exact Kd.R_mono (Kd.R_far (p := ⟨gb1002, 6, none⟩) (Kd.R_far (p := ⟨gb1002, 5, none⟩) (Kd.R_far (p := ⟨gb1002, 4, none⟩) (Kd.R_far (p := ⟨gb1002, 3, none⟩) (Kd.R_far (p := ⟨gb1002, 2, none⟩) (Kd.R_far (p := ⟨gb1002, 1, none⟩) (Kd.R_far (p := ⟨gb1002, 0, none⟩) (Kd.R_far (p := ⟨gb1003, 6, none⟩) (Kd.R_far (p := ⟨gb1003, 5, none⟩) (Kd.R_far (p := ⟨gb1003, 4, none⟩) (Kd.R_far (p := ⟨gb1003, 3, none⟩) (Kd.R_far (p := ⟨gb1003, 2, none⟩) (Kd.R_far (p := ⟨gb1003, 1, none⟩) (Kd.R_types (Kd.R_types HO1006.out BK1003.out (by decide)) BK1002.out (by decide)) (fun _ hk => hk.1.2) (.slice Ao12 t1004.length co12)) (fun _ hk => hk.1.2) (.string a0_2)) (fun _ hk => hk.1.2) (.string a0_3)) (fun _ hk => hk.1.2) (.string a0_4)) (fun _ hk => hk.1.2) (.string a0_5)) (fun _ hk => hk.1.2) (.int .i64 a0_6)) (fun _ hk => hk.2) (.int .i64 a0_0)) (fun _ hk => hk.2) (.slice Ao12 t1004.length co12)) (fun _ hk => hk.2) (.string a0_2)) (fun _ hk => hk.2) (.string a0_3)) (fun _ hk => hk.2) (.string a0_4)) (fun _ hk => hk.2) (.string a0_5)) (fun _ hk => hk.2) (.int .i64 a0_6)) (fun _ hk => trivial), bg_⟩

/-! ### slices_IndexFunc_string_string: function 77 -/
def slices_IndexFunc_string_string.l0 (P : ByteArray → Option Bool) (l0 : List ByteArray) : Nat → Int → Option Int
 | 0, _ => none
 | k + 1, x8 => if x8 < (l0.length : Int) then (if 0 ≤ x8 then ((P (rdOf ByteArray.empty l0 x8)).bind fun b => if b = true then some x8 else slices_IndexFunc_string_string.l0 P l0 k (wrap64 (x8 + 1))) else none) else some (-1)
def slices_IndexFunc_string_string.f (k : Nat) (P : ByteArray → Option Bool) (l0 : List ByteArray) : Option Int := slices_IndexFunc_string_string.l0 P l0 k 0
theorem slices_IndexFunc_string_string.mono_l (P P' : ByteArray → Option Bool) (hP : ∀ x, LeO (P x) (P' x)) (l0 : List ByteArray) : ∀ k x8, LeO (slices_IndexFunc_string_string.l0 P l0 k x8) (slices_IndexFunc_string_string.l0 P' l0 (k + 1) x8)
 | 0, _ => LeO.none _
 | k + 1, x8 => by
  have ih := slices_IndexFunc_string_string.mono_l P P' hP l0 k
  unfold slices_IndexFunc_string_string.l0
  exact LeO.ite (LeO.ite (LeO.bind (hP _) (fun _ => LeO.ite (LeO.refl _) (ih _))) (LeO.none _)) (LeO.refl _)
theorem slices_IndexFunc_string_string.mono (P P' : ByteArray → Option Bool) (hP : ∀ x, LeO (P x) (P' x)) (l0 : List ByteArray) (k : Nat) : LeO (slices_IndexFunc_string_string.f k P l0) (slices_IndexFunc_string_string.f (k + 1) P' l0) := slices_IndexFunc_string_string.mono_l P P' hP l0 k _
set_option maxHeartbeats 4000000 in
set_option maxRecDepth 100000 in
theorem slices_IndexFunc_string_string.calls (k : Nat) (P : ByteArray → Option Bool) (g : Nat) (vf : Value) (lb : Array Value) (hv : (vf = .func (.func g) #[] lb)) (eg : ∀ args w, (callFunc g args).run Tryd.prog w = .ok (.enter g args) w) (A0 : Option Addr) (c0 : Nat) (l0 : List ByteArray) (r : Int) (w : World) (hr0 : Kd.C Kd.string w A0 l0.length l0) (hc0 : l0.length ≤ c0)
  (hP : ∀ (W : World) (x : ByteArray) (b : Bool), Below w.heap.size w W → P x = some b → Calls Tryd.prog g (#[(.string (x))] ++ lb) W fun e w' => e = .returned (.bool b) ∧ Below W.heap.size W w') (h : slices_IndexFunc_string_string.f k P l0 = some r) :
  Calls Tryd.prog 77 #[.slice A0 l0.length c0, vf] w fun e w' => e = .returned (.int .i64 r) ∧ Below w.heap.size w w' := by
 subst hv
 have hu := Tryd.underlying9
 have HR0 := am_ hr0
 have HC0 := am_ hc0
 clear hr0 hc0
 have HB := am_ (Below.refl w.heap.size w)
 have hP' := am_ hP
 clear hP
 have H' := am_ (show slices_IndexFunc_string_string.l0 P l0 k 0 = some r from h)
 clear h
 go_enter Tryd.func77, Tryd.ntmps77
 go_wp2
 go_loopg [8] k (fun kq v8 w' => ∃ (x8 : Int), v8 = .int .i64 x8 ∧ Aside0 (slices_IndexFunc_string_string.l0 P l0 kq x8 = some r) ∧ Aside0 (Below w.heap.size w w'))
 case atStart => exact ⟨0, rs_, H', ⟨bl_⟩⟩
 case round =>
  clear H'
  obtain ⟨x8, rfl, HA, HB⟩ := hrel
  cases gk with
  | zero => exact absurd HA.out (by simp [slices_IndexFunc_string_string.l0])
  | succ k1 =>
   have H := HA.out
   clear HA
   simp only [slices_IndexFunc_string_string.l0] at H
   by_cases c4 : x8 < (l0.length : Int)
   ·rw [if_pos c4] at H
    have c4b0 : decide (x8 < (l0.length : Int)) = true := decide_eq_true c4
    by_cases c5 : 0 ≤ x8
    ·rw [if_pos c5] at H
     have c5b0 : decide (0 ≤ x8) = true := decide_eq_true c5
     obtain ⟨b, hb0, H⟩ := Option.bind_eq_some_iff.mp H
     have HP0 := am_ hb0
     clear hb0
     obtain ⟨ad, e_, hx_0⟩ := Kd.at_string HR0.out x8 c5 c4
     cases e_
     replace hx_0 := kp_ HB hx_0
     have p_ := eq_true c5
     have q_ := eq_true c4
     clear c4 c5
     cases b with
     | true =>
      rw [if_pos rfl] at H
      obtain rfl := Option.some.inj H
      go_wp2_with (first | ((with_reducible refine Calls.mono (hP'.out _ (rdOf ByteArray.empty l0 x8) true HB.out HP0.out) ?_); rintro e w10 ⟨rfl, hb⟩; have n2_ := am_ (below_step HB.out hb); clear HB; have HB := n2_; clear n2_ hb))
      go_ret
      exact ⟨rf_, bl_⟩
     | false =>
      rw [if_neg (show ¬ (false = true) by decide)] at H
      have H' := am_ H
      clear H
      go_wp2_with (first | ((with_reducible refine Calls.mono (hP'.out _ (rdOf ByteArray.empty l0 x8) false HB.out HP0.out) ?_); rintro e w10 ⟨rfl, hb⟩; have n2_ := am_ (below_step HB.out hb); clear HB; have HB := n2_; clear n2_ hb))
      go_roundg k1
      case measure => omega
      case rel => exact ⟨(wrap64 (x8 + 1)), rs_, H', ⟨bl_⟩⟩
    ·rw [if_neg c5] at H
     exact absurd H (by simp)
   ·rw [if_neg c4] at H
    have c4b0 : decide (x8 < (l0.length : Int)) = false := decide_eq_false c4
    clear c4
    obtain rfl := Option.some.inj H
    go_wp2
    go_ret
    exact ⟨rf_, bl_⟩

/-! ### slices_ContainsFunc_string_string: function 59 -/
def slices_ContainsFunc_string_string.f (k : Nat) (P : ByteArray → Option Bool) (l0 : List ByteArray) : Option Bool := (slices_IndexFunc_string_string.f k P l0).bind fun j => some (decide (0 ≤ j))
theorem slices_ContainsFunc_string_string.mono (P P' : ByteArray → Option Bool) (hP : ∀ x, LeO (P x) (P' x)) (l0 : List ByteArray) (k : Nat) : LeO (slices_ContainsFunc_string_string.f k P l0) (slices_ContainsFunc_string_string.f (k + 1) P' l0) := LeO.bind (slices_IndexFunc_string_string.mono P P' hP l0 k) (fun _ => LeO.refl _)
set_option maxHeartbeats 4000000 in
set_option maxRecDepth 100000 in
theorem slices_ContainsFunc_string_string.calls (k : Nat) (P : ByteArray → Option Bool) (g : Nat) (vf : Value) (lb : Array Value) (hv : vf = .func (.func g) #[] lb) (eg : ∀ args w, (callFunc g args).run Tryd.prog w = .ok (.enter g args) w) (A0 : Option Addr) (c0 : Nat) (l0 : List ByteArray) (r : Bool) (w : World) (hr0 : Kd.C Kd.string w A0 l0.length l0) (hc0 : l0.length ≤ c0)
  (hP : ∀ (W : World) (x : ByteArray) (b : Bool), Below w.heap.size w W → P x = some b → Calls Tryd.prog g (#[(.string (x))] ++ lb) W fun e w' => e = .returned (.bool b) ∧ Below W.heap.size W w') (h : slices_ContainsFunc_string_string.f k P l0 = some r) :
  Calls Tryd.prog 59 #[.slice A0 l0.length c0, vf] w fun e w' => e = .returned (.bool r) ∧ Below w.heap.size w w' := by
 unfold slices_ContainsFunc_string_string.f at h
 obtain ⟨j, hj, h⟩ := Option.bind_eq_some_iff.mp h
 obtain rfl := Option.some.inj h
 have hx := am_ (slices_IndexFunc_string_string.calls k P g vf lb hv eg A0 c0 l0 j w hr0 hc0 hP hj)
 clear hr0 hc0 hP h hj eg
 subst hv
 go_enter Tryd.func59, Tryd.ntmps59
 go_wp2_with (first | (go_at_call 77; refine hx.out.mono ?_; rintro e w1 ⟨rfl, hb⟩))
 go_ret
 exact ⟨rfl, hb⟩

/-! ### impl_GoodRelabel_1: function 60 -/
def impl_GoodRelabel_1.f (k : Nat) (a0 : ByteArray) : Option (Bool) := (impl_isName.f k a0).bind fun t1001 => (some (!t1001))
theorem impl_GoodRelabel_1.mono : ∀ a0 k, LeO (impl_GoodRelabel_1.f k a0) (impl_GoodRelabel_1.f (k + 1) a0) := by
 intro a0 k
 unfold impl_GoodRelabel_1.f
 repeat' first
   | with_reducible first | exact impl_isName.mono _ _ | exact LeO.refl _ | exact LeO.none _ | refine LeO.ite ?_ ?_ | refine LeO.bind ?_ (fun _ => ?_)
   | exact impl_isName.mono _ _
   | exact LeO.none _
   | refine LeO.ite ?_ ?_
   | refine LeO.bind ?_ (fun _ => ?_)
set_option maxHeartbeats 8000000 in
set_option maxRecDepth 100000 in
theorem impl_GoodRelabel_1.calls (k : Nat) (a0 : ByteArray) (r : Bool) (w : World) (h : impl_GoodRelabel_1.f k a0 = some r) :
  Calls Tryd.prog 60 #[.string a0] w fun e w' => e = .returned (.bool r) ∧ Drawn0 w w' := by
 have H : ((impl_isName.f k a0).bind fun t1001 => (some (!t1001))) = some r := h
 clear h
 replace H := Option.bind_eq_some_iff.mp H
 obtain ⟨t1001, A20, H⟩ := H
 replace H : (some (!t1001)) = some r := H
 have A2 := am_ A20
 clear A20
 obtain rfl := Option.some.inj H
 go_enter Tryd.func60, Tryd.ntmps60
 go_wp2_with (first | ((with_reducible refine gate_callee (f := 61) rfl ?_); refine goesL_ (some 4) rfl rfl Tryd.func61 (by kernel_rfl) rfl #[.string a0] rfl ag_ ?_; (with_reducible refine (impl_isName.calls k a0 t1001 _ A2.out).mono ?_); rintro e w' ⟨rfl, ⟨nd, rfl⟩⟩; refine ⟨_, rfl, ?_⟩))
 go_ret
 exact ⟨by first | rfl | (simp; done) | (simp [*]; done), by repeat (first | exact Drawn0.refl _ | apply Drawn0.step)⟩

/-! ### slices_Index_int_int: function 88 -/
def slices_Index_int_int.l0 : Nat → List Int → Int → Int → Int → Option (Int)
 | 0, _, _, _, _ => none
 | k + 1, x0, x1, x7, x8 => if x8 < x7 then (if 0 ≤ x8 then (if x8 < (x0.length : Int) then (if x1 = (rd x0 x8) then (some x8) else (slices_Index_int_int.l0 k x0 x1 x7 (wrap64 (x8 + 1)))) else (none)) else (none)) else (some (-1))
def slices_Index_int_int.f (k : Nat) (l0 : List Int) (a1 : Int) : Option (Int) := slices_Index_int_int.l0 k l0 a1 (l0.length : Int) 0
theorem slices_Index_int_int.mono_l : ∀ k, (∀ y0 y1 y2 y3, LeO (slices_Index_int_int.l0 k y0 y1 y2 y3) (slices_Index_int_int.l0 (k + 1) y0 y1 y2 y3))
 | 0 => fun _ _ _ _ r h => by simp [slices_Index_int_int.l0] at h
 | k + 1 => by
  have ih0 := slices_Index_int_int.mono_l k
  ·intro y0 y1 y2 y3
   unfold slices_Index_int_int.l0
   repeat' first
   | with_reducible first | exact ih0 _ _ _ _ | exact LeO.refl _ | exact LeO.none _ | refine LeO.ite ?_ ?_ | refine LeO.bind ?_ (fun _ => ?_)
   | exact ih0 _ _ _ _
   | exact LeO.none _
   | refine LeO.ite ?_ ?_
   | refine LeO.bind ?_ (fun _ => ?_)
theorem slices_Index_int_int.mono : ∀ a0 a1 k, LeO (slices_Index_int_int.f k a0 a1) (slices_Index_int_int.f (k + 1) a0 a1) := by
 intro a0 a1 k
 have ih0 := slices_Index_int_int.mono_l k
 unfold slices_Index_int_int.f
 repeat' first
   | with_reducible first | exact ih0 _ _ _ _ | exact LeO.refl _ | exact LeO.none _ | refine LeO.ite ?_ ?_ | refine LeO.bind ?_ (fun _ => ?_)
   | exact ih0 _ _ _ _
   | exact LeO.none _
   | refine LeO.ite ?_ ?_
   | refine LeO.bind ?_ (fun _ => ?_)
set_option maxHeartbeats 8000000 in
set_option maxRecDepth 100000 in
theorem slices_Index_int_int.calls (k : Nat) (A0 : Option Addr) (c0 : Nat) (l0 : List Int) (a1 : Int) (r : Int) (w : World) (hr0 : Kd.C (Kd.int .i64) w A0 l0.length l0) (hc0 : l0.length ≤ c0) (h : slices_Index_int_int.f k l0 a1 = some r) :
  Calls Tryd.prog 88 #[.slice A0 l0.length c0, .int .i64 a1] w fun e w' => e = .returned (.int .i64 r) ∧ Drawn0 w w' := by
 have HR0 := am_ hr0
 have HC0 := am_ hc0
 clear hr0 hc0
 have H : (slices_Index_int_int.l0 k l0 a1 (l0.length : Int) 0) = some r := h
 clear h
 have H' := am_ H
 clear H
 go_enter Tryd.func88, Tryd.ntmps88
 go_wp2
 go_loopg [8] k (fun kq v8 w' => ∃ (x8_1 : Int), v8 = .int .i64 x8_1 ∧ Aside0 (slices_Index_int_int.l0 kq l0 a1 (l0.length : Int) x8_1 = some r) ∧ Aside0 (kq ≤ k) ∧ Drawn0 w w')
 case atStart => exact ⟨(0), rs_, H', ⟨Nat.le_refl _⟩, by repeat (first | exact Drawn0.refl _ | apply Drawn0.step)⟩
 case round =>
  clear H'
  try clear p2
  obtain ⟨x8_1, rfl, HA, HK1, ⟨m1, rfl⟩⟩ := hrel
  cases gk with
  | zero => exact absurd HA.out (by simp [slices_Index_int_int.l0])
  | succ k1 =>
   have H := HA.out
   clear HA
   simp only [slices_Index_int_int.l0] at H
   by_cases c3 : x8_1 < (l0.length : Int)
   ·rw [if_pos c3] at H
    have c3b0 : decide (x8_1 < (l0.length : Int)) = true := decide_eq_true c3
    clear c3
    by_cases c4 : 0 ≤ x8_1
    ·rw [if_pos c4] at H
     have c4b0 : decide (0 ≤ x8_1) = true := decide_eq_true c4
     clear c4
     by_cases c5 : x8_1 < (l0.length : Int)
     ·rw [if_pos c5] at H
      have c5b0 : decide (x8_1 < (l0.length : Int)) = true := decide_eq_true c5
      clear c5
      by_cases c6 : a1 = (rd l0 x8_1)
      ·rw [if_pos c6] at H
       have c6b0 : (a1 == (rd l0 x8_1)) = true := beq_iff_eq.mpr c6
       have c6b1 : (a1 != (rd l0 x8_1)) = false := bne_eq_false_iff_eq.mpr c6
       clear c6
       obtain rfl := Option.some.inj H
       have p1001 : 0 ≤ (x8_1 : Int) := od_
       have q1001 : x8_1 < (l0.length : Int) := od_
       obtain ⟨ad1001, e1001, hx1001_0⟩ := Kd.at_int HR0.out x8_1 p1001 q1001
       cases e1001
       replace p1001 := eq_true p1001
       replace q1001 := eq_true q1001
       go_wp2
       go_ret
       exact ⟨by first | rfl | (simp; done) | (simp [*]; done), by repeat (first | exact Drawn0.refl _ | apply Drawn0.step)⟩
      ·rw [if_neg c6] at H
       have c6b0 : (a1 == (rd l0 x8_1)) = false := beq_eq_false_iff_ne.mpr c6
       have c6b1 : (a1 != (rd l0 x8_1)) = true := bne_iff_ne.mpr c6
       have H' := am_ H
       clear H
       have p1001 : 0 ≤ (x8_1 : Int) := od_
       have q1001 : x8_1 < (l0.length : Int) := od_
       obtain ⟨ad1001, e1001, hx1001_0⟩ := Kd.at_int HR0.out x8_1 p1001 q1001
       cases e1001
       replace p1001 := eq_true p1001
       replace q1001 := eq_true q1001
       go_wp2
       go_roundg k1
       case measure => have := HK1.out; omega
       case rel => exact ⟨(wrap64 (x8_1 + 1)), rs_, H', ⟨by have := HK1.out; omega⟩, by repeat (first | exact Drawn0.refl _ | apply Drawn0.step)⟩
     ·rw [if_neg c5] at H
      exact absurd H (by simp)
    ·rw [if_neg c4] at H
     exact absurd H (by simp)
   ·rw [if_neg c3] at H
    have c3b0 : decide (x8_1 < (l0.length : Int)) = false := decide_eq_false c3
    clear c3
    obtain rfl := Option.some.inj H
    go_wp2
    go_ret
    exact ⟨by first | rfl | (simp; done) | (simp [*]; done), by repeat (first | exact Drawn0.refl _ | apply Drawn0.step)⟩

/-! ### slices_Contains_int_int: function 81 -/
def slices_Contains_int_int.f (k : Nat) (l0 : List Int) (a1 : Int) : Option (Bool) := (slices_Index_int_int.f k l0 a1).bind fun t1001 => (some (decide (t1001 ≥ 0)))
theorem slices_Contains_int_int.mono : ∀ a0 a1 k, LeO (slices_Contains_int_int.f k a0 a1) (slices_Contains_int_int.f (k + 1) a0 a1) := by
 intro a0 a1 k
 unfold slices_Contains_int_int.f
 repeat' first
   | with_reducible first | exact slices_Index_int_int.mono _ _ _ | exact LeO.refl _ | exact LeO.none _ | refine LeO.ite ?_ ?_ | refine LeO.bind ?_ (fun _ => ?_)
   | exact slices_Index_int_int.mono _ _ _
   | exact LeO.none _
   | refine LeO.ite ?_ ?_
   | refine LeO.bind ?_ (fun _ => ?_)
set_option maxHeartbeats 8000000 in
set_option maxRecDepth 100000 in
theorem slices_Contains_int_int.calls (k : Nat) (A0 : Option Addr) (c0 : Nat) (l0 : List Int) (a1 : Int) (r : Bool) (w : World) (hr0 : Kd.C (Kd.int .i64) w A0 l0.length l0) (hc0 : l0.length ≤ c0) (h : slices_Contains_int_int.f k l0 a1 = some r) :
  Calls Tryd.prog 81 #[.slice A0 l0.length c0, .int .i64 a1] w fun e w' => e = .returned (.bool r) ∧ Drawn0 w w' := by
 have HR0 := am_ hr0
 have HC0 := am_ hc0
 clear hr0 hc0
 have H : ((slices_Index_int_int.f k l0 a1).bind fun t1001 => (some (decide (t1001 ≥ 0)))) = some r := h
 clear h
 replace H := Option.bind_eq_some_iff.mp H
 obtain ⟨t1001, A30, H⟩ := H
 replace H : (some (decide (t1001 ≥ 0))) = some r := H
 have A3 := am_ A30
 clear A30
 obtain rfl := Option.some.inj H
 go_enter Tryd.func81, Tryd.ntmps81
 go_wp2_with (first | ((with_reducible refine gate_callee (f := 88) rfl ?_); refine goesL_ (some 7) rfl rfl Tryd.func88 (by kernel_rfl) rfl #[.slice A0 l0.length c0, .int .i64 a1] rfl ag_ ?_; (with_reducible refine (slices_Index_int_int.calls k _ _ l0 a1 t1001 _ ?side1 ?side2 A3.out).mono ?_); (case side1 => repeat (first | exact HR0.out | (with_reducible refine Kd.C_alloc ?_ _) | (with_reducible refine Kd.C_drewN ?_ _) | (with_reducible refine Kd.C_drew ?_))); (case side2 => exact HC0.out); rintro e w' ⟨rfl, ⟨nd, rfl⟩⟩; refine ⟨_, rfl, ?_⟩))
 go_ret
 exact ⟨by first | rfl | (simp; done) | (simp [*]; done), by repeat (first | exact Drawn0.refl _ | apply Drawn0.step)⟩

/-! ### impl_isOne: function 64 -/
def impl_isOne.f (k : Nat) (a0 : Int) (l1 : List Int) : Option (Bool) := (slices_Contains_int_int.f k l1 a0).bind fun t1001 => (some t1001)
theorem impl_isOne.mono : ∀ a0 a1 k, LeO (impl_isOne.f k a0 a1) (impl_isOne.f (k + 1) a0 a1) := by
 intro a0 a1 k
 unfold impl_isOne.f
 repeat' first
   | with_reducible first | exact slices_Contains_int_int.mono _ _ _ | exact LeO.refl _ | exact LeO.none _ | refine LeO.ite ?_ ?_ | refine LeO.bind ?_ (fun _ => ?_)
   | exact slices_Contains_int_int.mono _ _ _
   | exact LeO.none _
   | refine LeO.ite ?_ ?_
   | refine LeO.bind ?_ (fun _ => ?_)
set_option maxHeartbeats 8000000 in
set_option maxRecDepth 100000 in
theorem impl_isOne.calls (k : Nat) (a0 : Int) (A1 : Option Addr) (c1 : Nat) (l1 : List Int) (r : Bool) (w : World) (hr1 : Kd.C (Kd.int .i64) w A1 l1.length l1) (hc1 : l1.length ≤ c1) (h : impl_isOne.f k a0 l1 = some r) :
  Calls Tryd.prog 64 #[.int .i64 a0, .slice A1 l1.length c1] w fun e w' => e = .returned (.bool r) ∧ Drawn0 w w' := by
 have HR1 := am_ hr1
 have HC1 := am_ hc1
 clear hr1 hc1
 have H : ((slices_Contains_int_int.f k l1 a0).bind fun t1001 => (some t1001)) = some r := h
 clear h
 replace H := Option.bind_eq_some_iff.mp H
 obtain ⟨t1001, A30, H⟩ := H
 replace H : (some t1001) = some r := H
 have A3 := am_ A30
 clear A30
 obtain rfl := Option.some.inj H
 go_enter Tryd.func64, Tryd.ntmps64
 go_wp2_with (first | ((with_reducible refine gate_callee (f := 81) rfl ?_); refine goesL_ (some 7) rfl rfl Tryd.func81 (by kernel_rfl) rfl #[.slice A1 l1.length c1, .int .i64 a0] rfl ag_ ?_; (with_reducible refine (slices_Contains_int_int.calls k _ _ l1 a0 t1001 _ ?side1 ?side2 A3.out).mono ?_); (case side1 => repeat (first | exact HR1.out | (with_reducible refine Kd.C_alloc ?_ _) | (with_reducible refine Kd.C_drewN ?_ _) | (with_reducible refine Kd.C_drew ?_))); (case side2 => exact HC1.out); rintro e w' ⟨rfl, ⟨nd, rfl⟩⟩; refine ⟨_, rfl, ?_⟩))
 go_ret
 exact ⟨by first | rfl | (simp; done) | (simp [*]; done), by repeat (first | exact Drawn0.refl _ | apply Drawn0.step)⟩

end Go.Proofs.YtknlgignjbghkaaDoor.Pr
