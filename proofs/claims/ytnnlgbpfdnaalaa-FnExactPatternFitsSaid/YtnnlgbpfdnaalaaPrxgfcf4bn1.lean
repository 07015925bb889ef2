/- Functions of the given program as plain Lean functions, and that the machine's calls come to them; written by a program of this session; no condition but those that each theorem states. -/
import Derived.Test.YtnnlgbpfdnaalaaPrx0
import Derived.Test.YtnnlgbpfdnaalaaPrxg3e55en1
import Derived.Test.YtnnlgbpfdnaalaaPrxg3010bn1
namespace Go.Proofs.Ytnnlgbpfdnaalaa.Pr
open Go.RowKit Go.Proofs.YtnnlgbpfdnaalaaW.PrintWords Go.Proofs.YtnnlgbpfdnaalaaW.PrintLast Go.Proofs.YtnnlgbpfdnaalaaW.PrintMore
attribute [local go_sem] max2_int min2_int max_two min_two max_three min_three max_four min_four   -- for this text's walks alone
set_option linter.unusedVariables false
set_option linter.unusedSimpArgs false

/-! ### spec_PatternFits: function 20 -/
def spec_PatternFits.f (k : Nat) (a0 : ByteArray) (a1 : ByteArray) : Option (Bool) := (spec_GoodPattern.f k a0).bind fun t1001 => (if t1001 = true then (if (a1.size : Int) ≤ 100 then ((spec_l2Fits.f k a0 a1).bind fun t1002 => (some t1002)) else (some false)) else (some false))
theorem spec_PatternFits.mono : ∀ a0 a1 k, LeO (spec_PatternFits.f k a0 a1) (spec_PatternFits.f (k + 1) a0 a1) := by
 intro a0 a1 k
 unfold spec_PatternFits.f
 repeat' first
   | with_reducible first | exact spec_GoodPattern.mono _ _ | exact spec_l2Fits.mono _ _ _ | exact LeO.refl _ | exact LeO.none _ | refine LeO.ite ?_ ?_ | refine LeO.bind ?_ (fun _ => ?_)
   | exact spec_GoodPattern.mono _ _
   | exact spec_l2Fits.mono _ _ _
   | exact LeO.none _
   | refine LeO.ite ?_ ?_
   | refine LeO.bind ?_ (fun _ => ?_)
set_option maxHeartbeats 8000000 in
set_option maxRecDepth 100000 in
theorem spec_PatternFits.calls (k : Nat) (a0 : ByteArray) (a1 : ByteArray) (r : Bool) (w : World) (h : spec_PatternFits.f k a0 a1 = some r) :
  Calls Try.prog 20 #[.string a0, .string a1] w fun e w' => e = .returned (.bool r) ∧ Below w.heap.size w w' := by
 have HB := am_ (Below.refl w.heap.size w)
 have H : ((spec_GoodPattern.f k a0).bind fun t1001 => (if t1001 = true then (if (a1.size : Int) ≤ 100 then ((spec_l2Fits.f k a0 a1).bind fun t1002 => (some t1002)) else (some false)) else (some false))) = some r := h
 clear h
 replace H := Option.bind_eq_some_iff.mp H
 obtain ⟨t1001, A30, H⟩ := H
 replace H : (if t1001 = true then (if (a1.size : Int) ≤ 100 then ((spec_l2Fits.f k a0 a1).bind fun t1002 => (some t1002)) else (some false)) else (some false)) = some r := H
 have A3 := am_ A30
 clear A30
 by_cases c4 : t1001 = true
 ·subst c4
  have H1 : (if (a1.size : Int) ≤ 100 then ((spec_l2Fits.f k a0 a1).bind fun t1002 => (some t1002)) else (some false)) = some r := by rw [if_pos rfl] at H; exact H
  clear H
  have H := H1
  clear H1
  by_cases c5 : (a1.size : Int) ≤ 100
  ·rw [if_pos c5] at H
   have c5b0 : decide ((a1.size : Int) ≤ 100) = true := decide_eq_true c5
   have c5b1 : decide (a1.size ≤ 100) = true := decide_eq_true (by omega)
   clear c5
   replace H := Option.bind_eq_some_iff.mp H
   obtain ⟨t1002, A60, H⟩ := H
   replace H : (some t1002) = some r := H
   have A6 := am_ A60
   clear A60
   obtain rfl := Option.some.inj H
   go_enter Try.func20, Try.ntmps20
   go_wp2_with (first | ((with_reducible refine gate_callee (f := 67) rfl ?_); refine goesL_ (some 6) rfl rfl Try.func67 (by kernel_rfl) rfl #[.string a0] rfl ag_ ?_; (with_reducible refine (spec_GoodPattern.calls k a0 true _ A3.out).mono ?_); rintro e w7 ⟨rfl, hb⟩; refine ⟨_, rfl, ?_⟩; have n0_ := am_ (below_step bl_ hb); clear HB; have HB := n0_; clear n0_; (try clear hb); (try clear hb2); (try clear hk); (try clear hi)) | (go_at_call 68; (with_reducible refine (spec_l2Fits.calls k a0 a1 t1002 _ A6.out).mono ?_); rintro e w8 ⟨rfl, hb⟩; have n0_ := am_ (below_step bl_ hb); clear HB; have HB := n0_; clear n0_; (try clear hb); (try clear hb2); (try clear hk); (try clear hi)))
   go_ret
   exact ⟨rf_, bl_⟩
  ·rw [if_neg c5] at H
   have c5b0 : decide ((a1.size : Int) ≤ 100) = false := decide_eq_false c5
   have c5b1 : decide (a1.size ≤ 100) = false := decide_eq_false (by omega)
   clear c5
   obtain rfl := Option.some.inj H
   go_enter Try.func20, Try.ntmps20
   go_wp2_with (first | ((with_reducible refine gate_callee (f := 67) rfl ?_); refine goesL_ (some 6) rfl rfl Try.func67 (by kernel_rfl) rfl #[.string a0] rfl ag_ ?_; (with_reducible refine (spec_GoodPattern.calls k a0 true _ A3.out).mono ?_); rintro e w9 ⟨rfl, hb⟩; refine ⟨_, rfl, ?_⟩; have n0_ := am_ (below_step bl_ hb); clear HB; have HB := n0_; clear n0_; (try clear hb); (try clear hb2); (try clear hk); (try clear hi)))
   go_ret
   exact ⟨rf_, bl_⟩
 ·replace c4 := Bool.eq_false_iff.mpr c4
  subst c4
  have H1 : (some false) = some r := by rw [if_neg (show ¬ (false = true) by decide)] at H; exact H
  clear H
  have H := H1
  clear H1
  obtain rfl := Option.some.inj H
  go_enter Try.func20, Try.ntmps20
  go_wp2_with (first | ((with_reducible refine gate_callee (f := 67) rfl ?_); refine goesL_ (some 6) rfl rfl Try.func67 (by kernel_rfl) rfl #[.string a0] rfl ag_ ?_; (with_reducible refine (spec_GoodPattern.calls k a0 false _ A3.out).mono ?_); rintro e w10 ⟨rfl, hb⟩; refine ⟨_, rfl, ?_⟩; have n0_ := am_ (below_step bl_ hb); clear HB; have HB := n0_; clear n0_; (try clear hb); (try clear hb2); (try clear hk); (try clear hi)))
  go_ret
  exact ⟨rf_, bl_⟩

/-! ### laws_FnExactPatternFits: function 4 -/
def laws_FnExactPatternFits.f (k : Nat) (a0 : ByteArray) (a1 : ByteArray) : Option (Bool) := if (a0.size : Int) > 1048576 then (some true) else (if (a1.size : Int) > 1048576 then (some true) else ((spec_PatternFits.f k a0 a1).bind fun t1001 => ((impl_PatternFits.f k a0 a1).bind fun t1002 => (if (t1002 != t1001) = true then (none) else (some true)))))
theorem laws_FnExactPatternFits.mono : ∀ a0 a1 k, LeO (laws_FnExactPatternFits.f k a0 a1) (laws_FnExactPatternFits.f (k + 1) a0 a1) := by
 intro a0 a1 k
 unfold laws_FnExactPatternFits.f
 repeat' first
   | with_reducible first | exact impl_PatternFits.mono _ _ _ | exact spec_PatternFits.mono _ _ _ | exact LeO.refl _ | exact LeO.none _ | refine LeO.ite ?_ ?_ | refine LeO.bind ?_ (fun _ => ?_)
   | exact impl_PatternFits.mono _ _ _
   | exact spec_PatternFits.mono _ _ _
   | exact LeO.none _
   | refine LeO.ite ?_ ?_
   | refine LeO.bind ?_ (fun _ => ?_)
set_option maxHeartbeats 8000000 in
set_option maxRecDepth 100000 in
theorem laws_FnExactPatternFits.calls (k : Nat) (a0 : ByteArray) (a1 : ByteArray) (r : Bool) (w : World) (h : laws_FnExactPatternFits.f k a0 a1 = some r) :
  Calls Try.prog 4 #[.string a0, .string a1] w fun e w' => e = .returned (.bool r) ∧ Below w.heap.size w w' := by
 have HB := am_ (Below.refl w.heap.size w)
 have H : (if (a0.size : Int) > 1048576 then (some true) else (if (a1.size : Int) > 1048576 then (some true) else ((spec_PatternFits.f k a0 a1).bind fun t1001 => ((impl_PatternFits.f k a0 a1).bind fun t1002 => (if (t1002 != t1001) = true then (none) else (some true)))))) = some r := h
 clear h
 by_cases c3 : (a0.size : Int) > 1048576
 ·rw [if_pos c3] at H
  have c3b0 : decide (1048576 < (a0.size : Int)) = true := decide_eq_true c3
  have c3b1 : decide (1048576 < a0.size) = true := decide_eq_true (by omega)
  clear c3
  obtain rfl := Option.some.inj H
  go_enter Try.func4, Try.ntmps4
  go_wp2
  go_ret
  exact ⟨rf_, bl_⟩
 ·rw [if_neg c3] at H
  have c3b0 : decide (1048576 < (a0.size : Int)) = false := decide_eq_false c3
  have c3b1 : decide (1048576 < a0.size) = false := decide_eq_false (by omega)
  clear c3
  by_cases c4 : (a1.size : Int) > 1048576
  ·rw [if_pos c4] at H
   have c4b0 : decide (1048576 < (a1.size : Int)) = true := decide_eq_true c4
   have c4b1 : decide (1048576 < a1.size) = true := decide_eq_true (by omega)
   clear c4
   obtain rfl := Option.some.inj H
   go_enter Try.func4, Try.ntmps4
   go_wp2
   go_ret
   exact ⟨rf_, bl_⟩
  ·rw [if_neg c4] at H
   have c4b0 : decide (1048576 < (a1.size : Int)) = false := decide_eq_false c4
   have c4b1 : decide (1048576 < a1.size) = false := decide_eq_false (by omega)
   clear c4
   replace H := Option.bind_eq_some_iff.mp H
   obtain ⟨t1001, A50, H⟩ := H
   replace H : ((impl_PatternFits.f k a0 a1).bind fun t1002 => (if (t1002 != t1001) = true then (none) else (some true))) = some r := H
   have A5 := am_ A50
   clear A50
   replace H := Option.bind_eq_some_iff.mp H
   obtain ⟨t1002, A60, H⟩ := H
   replace H : (if (t1002 != t1001) = true then (none) else (some true)) = some r := H
   have A6 := am_ A60
   clear A60
   by_cases c7 : (t1002 != t1001) = true
   ·rw [if_pos c7] at H
    exact absurd H (by simp)
   ·rw [if_neg c7] at H
    have c7b0 : (t1002 != t1001) = false := by simpa using c7
    (try (have c7b1 : decide (t1002 = t1001) = true := by simpa using c7))
    (try (have c7b2 : (t1002 == t1001) = true := by simpa using c7))
    clear c7
    obtain rfl := Option.some.inj H
    go_enter Try.func4, Try.ntmps4
    go_wp2_with (first | ((with_reducible refine gate_callee (f := 20) rfl ?_); refine goesL_ (some 15) rfl rfl Try.func20 (by kernel_rfl) rfl #[.string a0, .string a1] rfl ag_ ?_; (with_reducible refine (spec_PatternFits.calls k a0 a1 t1001 _ A5.out).mono ?_); rintro e w8 ⟨rfl, hb⟩; refine ⟨_, rfl, ?_⟩; have n0_ := am_ (below_step bl_ hb); clear HB; have HB := n0_; clear n0_; (try clear hb); (try clear hb2); (try clear hk); (try clear hi)) | ((with_reducible refine gate_callee (f := 21) rfl ?_); refine goesL_ (some 18) rfl rfl Try.func21 (by kernel_rfl) rfl #[.string a0, .string a1] rfl ag_ ?_; (with_reducible refine (impl_PatternFits.calls k a0 a1 t1002 _ A6.out).mono ?_); rintro e w9 ⟨rfl, hb⟩; refine ⟨_, rfl, ?_⟩; have n0_ := am_ (below_step bl_ hb); clear HB; have HB := n0_; clear n0_; (try clear hb); (try clear hb2); (try clear hk); (try clear hi)))
    go_ret
    exact ⟨rf_, bl_⟩

/-- THE ONE PURE STATEMENT of laws_FnExactPatternFits: yours. -/
def laws_FnExactPatternFits.Pure : Prop := ∀ (a0 : ByteArray) (a1 : ByteArray), a0.size ≤ 140737488351232 → a1.size ≤ 140737488351232 → ∃ k, laws_FnExactPatternFits.f k a0 a1 = some true
theorem laws_FnExactPatternFits.walk (P : laws_FnExactPatternFits.Pure) (a0 : ByteArray) (a1 : ByteArray) (w : World) (w0 : a0.size ≤ 140737488351232) (w1 : a1.size ≤ 140737488351232) :
  Calls Try.prog 4 #[.string a0, .string a1] w fun e w' => e = .returned (.bool true) ∧ Below w.heap.size w w' := by
 obtain ⟨k, h⟩ := P a0 a1 w0 w1
 refine (laws_FnExactPatternFits.calls k a0 a1 true w h).mono ?_
 rintro e w' ⟨rfl, hd⟩
 exact ⟨rfl, hd⟩

end Go.Proofs.Ytnnlgbpfdnaalaa.Pr
