/- Functions of the given program as plain Lean functions, and that the machine's calls come to them; written by a program of this session; no condition but those that each theorem states. -/
import Derived.Test.YtnnlgbpfdnaalaaPrx0
import Derived.Test.YtnnlgbpfdnaalaaPrxg84e39n1
namespace Go.Proofs.Ytnnlgbpfdnaalaa.Pr
open Go.RowKit Go.Proofs.YtnnlgbpfdnaalaaW.PrintWords Go.Proofs.YtnnlgbpfdnaalaaW.PrintLast Go.Proofs.YtnnlgbpfdnaalaaW.PrintMore
attribute [local go_sem] max2_int min2_int max_two min_two max_three min_three max_four min_four   -- for this text's walks alone
set_option linter.unusedVariables false
set_option linter.unusedSimpArgs false

/-! ### laws_FnExactGoodMatchers: function 5 -/
def laws_FnExactGoodMatchers.f (k : Nat) (l0 : List (S86)) : Option (Bool) := (laws_szMatcherS.f k l0 1048576).bind fun t1001 => (if t1001 < 0 then (some true) else ((laws_toMatcherS.f k l0).bind fun t1002 => ((spec_GoodMatchers.f k t1002).bind fun t1005 => ((laws_toMatcherS.f k l0).bind fun t1006 => ((impl_GoodMatchers.f k t1006).bind fun t1009 => (if (t1009 != t1005) = true then (none) else ((laws_toMatcherS.f k l0).bind fun t1010 => ((laws_eqMatcherS.f k t1006 t1010).bind fun t1013 => (if t1013 = true then (some true) else (none))))))))))
theorem laws_FnExactGoodMatchers.mono : ∀ a0 k, LeO (laws_FnExactGoodMatchers.f k a0) (laws_FnExactGoodMatchers.f (k + 1) a0) := by
 intro a0 k
 unfold laws_FnExactGoodMatchers.f
 repeat' first
   | with_reducible first | exact impl_GoodMatchers.mono _ _ | exact laws_eqMatcherS.mono _ _ _ | exact laws_szMatcherS.mono _ _ _ | exact laws_toMatcherS.mono _ _ | exact spec_GoodMatchers.mono _ _ | exact LeO.refl _ | exact LeO.none _ | refine LeO.ite ?_ ?_ | refine LeO.bind ?_ (fun _ => ?_)
   | exact impl_GoodMatchers.mono _ _
   | exact laws_eqMatcherS.mono _ _ _
   | exact laws_szMatcherS.mono _ _ _
   | exact laws_toMatcherS.mono _ _
   | exact spec_GoodMatchers.mono _ _
   | exact LeO.none _
   | refine LeO.ite ?_ ?_
   | refine LeO.bind ?_ (fun _ => ?_)
set_option maxHeartbeats 8000000 in
set_option maxRecDepth 100000 in
theorem laws_FnExactGoodMatchers.calls (k : Nat) (A0 : Option Addr) (c0 : Nat) (l0 : List (S86)) (r : Bool) (w : World) (hr0 : Kd.C k86 w A0 l0.length l0) (hc0 : l0.length ≤ c0) (h : laws_FnExactGoodMatchers.f k l0 = some r) :
  Calls Try.prog 5 #[.slice A0 l0.length c0] w fun e w' => e = .returned (.bool r) ∧ Below w.heap.size w w' := by
 have HR0 := am_ hr0
 have HC0 := am_ hc0
 clear hr0 hc0
 have HB := am_ (Below.refl w.heap.size w)
 have H : ((laws_szMatcherS.f k l0 1048576).bind fun t1001 => (if t1001 < 0 then (some true) else ((laws_toMatcherS.f k l0).bind fun t1002 => ((spec_GoodMatchers.f k t1002).bind fun t1005 => ((laws_toMatcherS.f k l0).bind fun t1006 => ((impl_GoodMatchers.f k t1006).bind fun t1009 => (if (t1009 != t1005) = true then (none) else ((laws_toMatcherS.f k l0).bind fun t1010 => ((laws_eqMatcherS.f k t1006 t1010).bind fun t1013 => (if t1013 = true then (some true) else (none))))))))))) = some r := h
 clear h
 replace H := Option.bind_eq_some_iff.mp H
 obtain ⟨t1001, A20, H⟩ := H
 replace H : (if t1001 < 0 then (some true) else ((laws_toMatcherS.f k l0).bind fun t1002 => ((spec_GoodMatchers.f k t1002).bind fun t1005 => ((laws_toMatcherS.f k l0).bind fun t1006 => ((impl_GoodMatchers.f k t1006).bind fun t1009 => (if (t1009 != t1005) = true then (none) else ((laws_toMatcherS.f k l0).bind fun t1010 => ((laws_eqMatcherS.f k t1006 t1010).bind fun t1013 => (if t1013 = true then (some true) else (none)))))))))) = some r := H
 have A2 := am_ A20
 clear A20
 by_cases c3 : t1001 < 0
 ·rw [if_pos c3] at H
  have c3b0 : decide (t1001 < 0) = true := decide_eq_true c3
  clear c3
  obtain rfl := Option.some.inj H
  go_enter Try.func5, Try.ntmps5
  go_wp2_with (first | ((with_reducible refine gate_callee (f := 22) rfl ?_); refine goesL_ (some 9) rfl rfl Try.func22 (by kernel_rfl) rfl #[.slice A0 l0.length c0, .int .i64 1048576] rfl ag_ ?_; (with_reducible refine (laws_szMatcherS.calls k _ _ l0 1048576 t1001 _ ?side1 ?side2 A2.out).mono ?_); (case side1 => repeat (first | exact HR0.out | (with_reducible refine Kd.C_alloc ?_ _) | (with_reducible refine Kd.C_drewN ?_ _) | (with_reducible refine Kd.C_drew ?_))); (case side2 => exact HC0.out); rintro e w4 ⟨rfl, hb⟩; refine ⟨_, rfl, ?_⟩; have n0_ := am_ (below_step bl_ hb); clear HB; have HB := n0_; clear n0_; (try clear hb); (try clear hb2); (try clear hk); (try clear hi)))
  go_ret
  exact ⟨rf_, bl_⟩
 ·rw [if_neg c3] at H
  have c3b0 : decide (t1001 < 0) = false := decide_eq_false c3
  clear c3
  replace H := Option.bind_eq_some_iff.mp H
  obtain ⟨t1002, A50, H⟩ := H
  replace H : ((spec_GoodMatchers.f k t1002).bind fun t1005 => ((laws_toMatcherS.f k l0).bind fun t1006 => ((impl_GoodMatchers.f k t1006).bind fun t1009 => (if (t1009 != t1005) = true then (none) else ((laws_toMatcherS.f k l0).bind fun t1010 => ((laws_eqMatcherS.f k t1006 t1010).bind fun t1013 => (if t1013 = true then (some true) else (none)))))))) = some r := H
  have A5 := am_ A50
  clear A50
  replace H := Option.bind_eq_some_iff.mp H
  obtain ⟨t1005, A60, H⟩ := H
  replace H : ((laws_toMatcherS.f k l0).bind fun t1006 => ((impl_GoodMatchers.f k t1006).bind fun t1009 => (if (t1009 != t1005) = true then (none) else ((laws_toMatcherS.f k l0).bind fun t1010 => ((laws_eqMatcherS.f k t1006 t1010).bind fun t1013 => (if t1013 = true then (some true) else (none))))))) = some r := H
  have A6 := am_ A60
  clear A60
  replace H := Option.bind_eq_some_iff.mp H
  obtain ⟨t1006, A70, H⟩ := H
  replace H : ((impl_GoodMatchers.f k t1006).bind fun t1009 => (if (t1009 != t1005) = true then (none) else ((laws_toMatcherS.f k l0).bind fun t1010 => ((laws_eqMatcherS.f k t1006 t1010).bind fun t1013 => (if t1013 = true then (some true) else (none)))))) = some r := H
  have A7 := am_ A70
  clear A70
  replace H := Option.bind_eq_some_iff.mp H
  obtain ⟨t1009, A80, H⟩ := H
  replace H : (if (t1009 != t1005) = true then (none) else ((laws_toMatcherS.f k l0).bind fun t1010 => ((laws_eqMatcherS.f k t1006 t1010).bind fun t1013 => (if t1013 = true then (some true) else (none))))) = some r := H
  have A8 := am_ A80
  clear A80
  by_cases c9 : (t1009 != t1005) = true
  ·rw [if_pos c9] at H
   exact absurd H (by simp)
  ·rw [if_neg c9] at H
   have c9b0 : (t1009 != t1005) = false := by simpa using c9
   (try (have c9b1 : decide (t1009 = t1005) = true := by simpa using c9))
   (try (have c9b2 : (t1009 == t1005) = true := by simpa using c9))
   clear c9
   replace H := Option.bind_eq_some_iff.mp H
   obtain ⟨t1010, A100, H⟩ := H
   replace H : ((laws_eqMatcherS.f k t1006 t1010).bind fun t1013 => (if t1013 = true then (some true) else (none))) = some r := H
   have A10 := am_ A100
   clear A100
   replace H := Option.bind_eq_some_iff.mp H
   obtain ⟨t1013, A110, H⟩ := H
   replace H : (if t1013 = true then (some true) else (none)) = some r := H
   have A11 := am_ A110
   clear A110
   by_cases c12 : t1013 = true
   ·subst c12
    have H1 : (some true) = some r := by rw [if_pos rfl] at H; exact H
    clear H
    have H := H1
    clear H1
    obtain rfl := Option.some.inj H
    go_enter Try.func5, Try.ntmps5
    go_wp2_with (first | ((with_reducible refine gate_callee (f := 22) rfl ?_); refine goesL_ (some 9) rfl rfl Try.func22 (by kernel_rfl) rfl #[.slice A0 l0.length c0, .int .i64 1048576] rfl ag_ ?_; (with_reducible refine (laws_szMatcherS.calls k _ _ l0 1048576 t1001 _ ?side1 ?side2 A2.out).mono ?_); (case side1 => repeat (first | exact HR0.out | (with_reducible refine Kd.C_alloc ?_ _) | (with_reducible refine Kd.C_drewN ?_ _) | (with_reducible refine Kd.C_drew ?_))); (case side2 => exact HC0.out); rintro e w13 ⟨rfl, hb⟩; refine ⟨_, rfl, ?_⟩; have n0_ := am_ (below_step bl_ hb); clear HB; have HB := n0_; clear n0_; (try clear hb); (try clear hb2); (try clear hk); (try clear hi)) | ((with_reducible refine gate_callee (f := 24) rfl ?_); refine goesL_ (some 13) rfl rfl Try.func24 (by kernel_rfl) rfl #[.slice A0 l0.length c0] rfl ag_ ?_; (with_reducible refine (laws_toMatcherS.calls k _ _ l0 t1002 _ ?side1 ?side2 A5.out).mono ?_); (case side1 => exact cc_ (Kd.C_below HR0.out HB.out)); (case side2 => exact HC0.out); rintro e w14 ⟨v1003, rfl, ho0, hb⟩; refine ⟨_, rfl, ?_⟩; have n0_ := am_ (Kd.R_lower ho0 (below_size bl_)); have n1_ := am_ (below_step bl_ hb); clear HB; have HO1004 := n0_; have HB := n1_; clear n0_ n1_; (try clear hb); (try clear hb2); (try clear hk); (try clear hi); (try clear ho0); obtain ⟨Ao15, co15, eo15⟩ := Kd.R_slice HO1004.out; subst eo15) | ((with_reducible refine gate_callee (f := 23) rfl ?_); refine goesL_ (some 14) rfl rfl Try.func23 (by kernel_rfl) rfl #[.slice Ao15 t1002.length co15] rfl ag_ ?_; (with_reducible refine (spec_GoodMatchers.calls k _ _ t1002 t1005 _ ?side1 ?side2 A6.out).mono ?_); (case side1 => exact cc_ (Kd.R_reads' HO1004.out).2.2); (case side2 => exact (Kd.R_reads' HO1004.out).2.1); rintro e w16 ⟨rfl, hb⟩; refine ⟨_, rfl, ?_⟩; have n0_ := am_ (Kd.R_below (ro_ HO1004) hb); have n1_ := am_ (below_step bl_ hb); clear HO1004; clear HB; have HO1004 := n0_; have HB := n1_; clear n0_ n1_; (try clear hb); (try clear hb2); (try clear hk); (try clear hi)) | ((with_reducible refine gate_callee (f := 24) rfl ?_); refine goesL_ (some 16) rfl rfl Try.func24 (by kernel_rfl) rfl #[.slice A0 l0.length c0] rfl ag_ ?_; (with_reducible refine (laws_toMatcherS.calls k _ _ l0 t1006 _ ?side1 ?side2 A7.out).mono ?_); (case side1 => exact cc_ (Kd.C_below HR0.out HB.out)); (case side2 => exact HC0.out); rintro e w17 ⟨v1007, rfl, ho0, hb⟩; refine ⟨_, rfl, ?_⟩; have n0_ := am_ (Kd.R_elder' (ro_ HO1004) (Kd.R_base ho0) hb); have n1_ := am_ (Kd.R_lower (Kd.R_new' ho0 (Kd.R_lt (ro_ HO1004))) (below_size bl_)); have n2_ := am_ (below_step bl_ hb); clear HO1004; clear HB; have HO1004 := n0_; have HO1008 := n1_; have HB := n2_; clear n0_ n1_ n2_; (try clear hb); (try clear hb2); (try clear hk); (try clear hi); (try clear ho0); obtain ⟨Ao18, co18, eo18⟩ := Kd.R_slice HO1008.out; subst eo18) | ((with_reducible refine gate_callee (f := 25) rfl ?_); refine goesL_ (some 18) rfl rfl Try.func25 (by kernel_rfl) rfl #[.slice Ao18 t1006.length co18] rfl ag_ ?_; (with_reducible refine (impl_GoodMatchers.calls k _ _ t1006 t1009 _ ?side1 ?side2 A8.out).mono ?_); (case side1 => exact cc_ (Kd.R_reads' HO1008.out).2.2); (case side2 => exact (Kd.R_reads' HO1008.out).2.1); rintro e w19 ⟨rfl, hb⟩; refine ⟨_, rfl, ?_⟩; have n0_ := am_ (Kd.R_below (ro_ HO1004) hb); have n1_ := am_ (Kd.R_below (ro_ HO1008) hb); have n2_ := am_ (below_step bl_ hb); clear HO1004; clear HO1008; clear HB; have HO1004 := n0_; have HO1008 := n1_; have HB := n2_; clear n0_ n1_ n2_; (try clear hb); (try clear hb2); (try clear hk); (try clear hi)) | ((with_reducible refine gate_callee (f := 24) rfl ?_); refine goesL_ (some 24) rfl rfl Try.func24 (by kernel_rfl) rfl #[.slice A0 l0.length c0] rfl ag_ ?_; (with_reducible refine (laws_toMatcherS.calls k _ _ l0 t1010 _ ?side1 ?side2 A10.out).mono ?_); (case side1 => exact cc_ (Kd.C_below HR0.out HB.out)); (case side2 => exact HC0.out); rintro e w20 ⟨v1011, rfl, ho0, hb⟩; refine ⟨_, rfl, ?_⟩; have n0_ := am_ (Kd.R_elder' (ro_ HO1004) (Kd.R_base ho0) hb); have n1_ := am_ (Kd.R_elder' (ro_ HO1008) (Kd.R_base ho0) hb); have n2_ := am_ (Kd.R_lower (Kd.R_new' (Kd.R_new' ho0 (Kd.R_lt (ro_ HO1004))) (Kd.R_lt (ro_ HO1008))) (below_size bl_)); have n3_ := am_ (below_step bl_ hb); clear HO1004; clear HO1008; clear HB; have HO1004 := n0_; have HO1008 := n1_; have HO1012 := n2_; have HB := n3_; clear n0_ n1_ n2_ n3_; (try clear hb); (try clear hb2); (try clear hk); (try clear hi); (try clear ho0); obtain ⟨Ao21, co21, eo21⟩ := Kd.R_slice HO1012.out; subst eo21) | ((with_reducible refine gate_callee (f := 26) rfl ?_); refine goesL_ (some 25) rfl rfl Try.func26 (by kernel_rfl) rfl #[.slice Ao18 t1006.length co18, .slice Ao21 t1010.length co21] rfl ag_ ?_; (with_reducible refine (laws_eqMatcherS.calls k _ _ t1006 _ _ t1010 true _ ?side1 ?side2 ?side3 ?side4 A11.out).mono ?_); (case side1 => exact cc_ (Kd.R_reads' HO1008.out).2.2); (case side2 => exact (Kd.R_reads' HO1008.out).2.1); (case side3 => exact cc_ (Kd.R_reads' HO1012.out).2.2); (case side4 => exact (Kd.R_reads' HO1012.out).2.1); rintro e w22 ⟨rfl, hb⟩; refine ⟨_, rfl, ?_⟩; have n0_ := am_ (Kd.R_below (ro_ HO1004) hb); have n1_ := am_ (Kd.R_below (ro_ HO1008) hb); have n2_ := am_ (Kd.R_below (ro_ HO1012) hb); have n3_ := am_ (below_step bl_ hb); clear HO1004; clear HO1008; clear HO1012; clear HB; have HO1004 := n0_; have HO1008 := n1_; have HO1012 := n2_; have HB := n3_; clear n0_ n1_ n2_ n3_; (try clear hb); (try clear hb2); (try clear hk); (try clear hi)))
    go_ret
    exact ⟨rf_, bl_⟩
   ·replace c12 := Bool.eq_false_iff.mpr c12
    subst c12
    have H1 : (none) = some r := by rw [if_neg (show ¬ (false = true) by decide)] at H; exact H
    clear H
    have H := H1
    clear H1
    exact absurd H (by simp)

end Go.Proofs.Ytnnlgbpfdnaalaa.Pr
