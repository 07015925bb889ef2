/- Functions of the given program as plain Lean functions, and that the machine's calls come to them; written by a program of this session; no condition but those that each theorem states. -/
import Derived.Test.YthgeohdpjedhnaaPrx0
import Derived.Test.YthgeohdpjedhnaaPrxga12edn1
import Derived.Test.YthgeohdpjedhnaaPrxga12edn2
import Derived.Test.YthgeohdpjedhnaaPrxga12edn4
import Derived.Test.YthgeohdpjedhnaaPrxga12edn5
namespace Go.Proofs.Ythgeohdpjedhnaa.Pr
open Go.RowKit Go.Proofs.YthgeohdpjedhnaaW.PrintWords Go.Proofs.YthgeohdpjedhnaaW.PrintLast Go.Proofs.YthgeohdpjedhnaaW.PrintMore
attribute [local go_sem] max2_int min2_int max_two min_two max_three min_three max_four min_four   -- for this text's walks alone
set_option linter.unusedVariables false
set_option linter.unusedSimpArgs false

/-! ### laws_FnExactGoodSeries: function 10 -/
def laws_FnExactGoodSeries.f (k : Nat) (l0 : List (S100)) : Option (Bool) := (laws_szSeriesS.f k l0 1048576).bind fun t601 => (if t601 < 0 then (some true) else ((laws_toSeriesS.f k l0).bind fun t602 => ((spec_GoodSeries.f k t602).bind fun t605 => ((laws_toSeriesS.f k l0).bind fun t606 => ((impl_GoodSeries.f k t606).bind fun t609 => (if (t609 != t605) = true then (none) else ((laws_toSeriesS.f k l0).bind fun t610 => ((laws_eqSeriesS.f k t606 t610).bind fun t613 => (if t613 = true then (some true) else (none))))))))))
theorem laws_FnExactGoodSeries.mono : ∀ a0 k, LeO (laws_FnExactGoodSeries.f k a0) (laws_FnExactGoodSeries.f (k + 1) a0) := by
 intro a0 k
 unfold laws_FnExactGoodSeries.f
 repeat' first
   | (with_reducible exact impl_GoodSeries.mono _ _)
   | (with_reducible exact laws_eqSeriesS.mono _ _ _)
   | (with_reducible exact laws_szSeriesS.mono _ _ _)
   | (with_reducible exact laws_toSeriesS.mono _ _)
   | (with_reducible exact spec_GoodSeries.mono _ _)
   | (with_reducible exact LeO.refl _)
   | (with_reducible exact LeO.none _)
   | (with_reducible refine LeO.ite ?_ ?_)
   | (with_reducible refine LeO.bind ?_ (fun _ => ?_))
   | exact impl_GoodSeries.mono _ _
   | exact laws_eqSeriesS.mono _ _ _
   | exact laws_szSeriesS.mono _ _ _
   | exact laws_toSeriesS.mono _ _
   | exact spec_GoodSeries.mono _ _
   | exact LeO.none _
   | refine LeO.ite ?_ ?_
   | refine LeO.bind ?_ (fun _ => ?_)
set_option maxHeartbeats 8000000 in
set_option maxRecDepth 100000 in
theorem laws_FnExactGoodSeries.calls (k : Nat) (A0 : Option Addr) (c0 : Nat) (l0 : List (S100)) (r : Bool) (w : World) (hr0 : Kd.C k100 w A0 l0.length l0) (hc0 : l0.length ≤ c0) (h : laws_FnExactGoodSeries.f k l0 = some r) :
  Calls Try.prog 10 #[.slice A0 l0.length c0] w fun e w' => e = .returned (.bool r) ∧ Below w.heap.size w w' := by
 have HR0 := Aside0.mk hr0
 have HC0 := Aside0.mk hc0
 clear hr0 hc0
 have HB := Aside0.mk (Below.refl w.heap.size w)
 have H : ((laws_szSeriesS.f k l0 1048576).bind fun t601 => (if t601 < 0 then (some true) else ((laws_toSeriesS.f k l0).bind fun t602 => ((spec_GoodSeries.f k t602).bind fun t605 => ((laws_toSeriesS.f k l0).bind fun t606 => ((impl_GoodSeries.f k t606).bind fun t609 => (if (t609 != t605) = true then (none) else ((laws_toSeriesS.f k l0).bind fun t610 => ((laws_eqSeriesS.f k t606 t610).bind fun t613 => (if t613 = true then (some true) else (none))))))))))) = some r := h
 clear h
 replace H := Option.bind_eq_some_iff.mp H
 obtain ⟨t601, A20, H⟩ := H
 replace H : (if t601 < 0 then (some true) else ((laws_toSeriesS.f k l0).bind fun t602 => ((spec_GoodSeries.f k t602).bind fun t605 => ((laws_toSeriesS.f k l0).bind fun t606 => ((impl_GoodSeries.f k t606).bind fun t609 => (if (t609 != t605) = true then (none) else ((laws_toSeriesS.f k l0).bind fun t610 => ((laws_eqSeriesS.f k t606 t610).bind fun t613 => (if t613 = true then (some true) else (none)))))))))) = some r := H
 have A2 := Aside0.mk A20
 clear A20
 by_cases c3 : t601 < 0
 ·rw [if_pos c3] at H
  have c3b0 : decide (t601 < 0) = true := decide_eq_true c3
  clear c3
  obtain rfl := Option.some.inj H
  go_enter Try.func10, Try.ntmps10
  go_wp2_with (first | ((with_reducible refine gate_callee (f := 41) rfl ?_); refine goesL_ (some 9) rfl rfl Try.func41 (by kernel_rfl) rfl #[.slice A0 l0.length c0, .int .i64 1048576] rfl (by (try simp only [List.map_toArray, List.map_cons, List.map_nil]); first | done | rfl | (simp only [List.length_drop, List.length_take]; rfl)) ?_; (with_reducible refine (laws_szSeriesS.calls k _ _ l0 1048576 t601 _ ?side1 ?side2 A2.out).mono ?_); (case side1 => repeat (first | exact HR0.out | (with_reducible refine Kd.C_alloc ?_ _) | (with_reducible refine Kd.C_drewN ?_ _) | (with_reducible refine Kd.C_drew ?_))); (case side2 => exact HC0.out); rintro e w4 ⟨rfl, hb⟩; refine ⟨_, rfl, ?_⟩; have n0_ := Aside0.mk (below_step bl_ hb); clear HB; have HB := n0_; clear n0_; (try clear hb); (try clear hb2); (try clear hk); (try clear hi)))
  go_ret
  exact ⟨by first | rfl | (simp [errW_none, errW_some] <;> rfl) | (simp [*, errW_none, errW_some] <;> rfl) | (simp [*, Go.Proofs.Ythgeohdpjedhnaa.Gt.nil_bne]; done), bl_⟩
 ·rw [if_neg c3] at H
  have c3b0 : decide (t601 < 0) = false := decide_eq_false c3
  clear c3
  replace H := Option.bind_eq_some_iff.mp H
  obtain ⟨t602, A50, H⟩ := H
  replace H : ((spec_GoodSeries.f k t602).bind fun t605 => ((laws_toSeriesS.f k l0).bind fun t606 => ((impl_GoodSeries.f k t606).bind fun t609 => (if (t609 != t605) = true then (none) else ((laws_toSeriesS.f k l0).bind fun t610 => ((laws_eqSeriesS.f k t606 t610).bind fun t613 => (if t613 = true then (some true) else (none)))))))) = some r := H
  have A5 := Aside0.mk A50
  clear A50
  replace H := Option.bind_eq_some_iff.mp H
  obtain ⟨t605, A60, H⟩ := H
  replace H : ((laws_toSeriesS.f k l0).bind fun t606 => ((impl_GoodSeries.f k t606).bind fun t609 => (if (t609 != t605) = true then (none) else ((laws_toSeriesS.f k l0).bind fun t610 => ((laws_eqSeriesS.f k t606 t610).bind fun t613 => (if t613 = true then (some true) else (none))))))) = some r := H
  have A6 := Aside0.mk A60
  clear A60
  replace H := Option.bind_eq_some_iff.mp H
  obtain ⟨t606, A70, H⟩ := H
  replace H : ((impl_GoodSeries.f k t606).bind fun t609 => (if (t609 != t605) = true then (none) else ((laws_toSeriesS.f k l0).bind fun t610 => ((laws_eqSeriesS.f k t606 t610).bind fun t613 => (if t613 = true then (some true) else (none)))))) = some r := H
  have A7 := Aside0.mk A70
  clear A70
  replace H := Option.bind_eq_some_iff.mp H
  obtain ⟨t609, A80, H⟩ := H
  replace H : (if (t609 != t605) = true then (none) else ((laws_toSeriesS.f k l0).bind fun t610 => ((laws_eqSeriesS.f k t606 t610).bind fun t613 => (if t613 = true then (some true) else (none))))) = some r := H
  have A8 := Aside0.mk A80
  clear A80
  by_cases c9 : (t609 != t605) = true
  ·rw [if_pos c9] at H
   exact absurd H (by simp)
  ·rw [if_neg c9] at H
   have c9b0 : (t609 != t605) = false := by simpa using c9
   (try (have c9b1 : decide (t609 = t605) = true := by simpa using c9))
   (try (have c9b2 : (t609 == t605) = true := by simpa using c9))
   clear c9
   replace H := Option.bind_eq_some_iff.mp H
   obtain ⟨t610, A100, H⟩ := H
   replace H : ((laws_eqSeriesS.f k t606 t610).bind fun t613 => (if t613 = true then (some true) else (none))) = some r := H
   have A10 := Aside0.mk A100
   clear A100
   replace H := Option.bind_eq_some_iff.mp H
   obtain ⟨t613, A110, H⟩ := H
   replace H : (if t613 = true then (some true) else (none)) = some r := H
   have A11 := Aside0.mk A110
   clear A110
   by_cases c12 : t613 = true
   ·subst c12
    have H1 : (some true) = some r := by rw [if_pos rfl] at H; exact H
    clear H
    have H := H1
    clear H1
    obtain rfl := Option.some.inj H
    go_enter Try.func10, Try.ntmps10
    go_wp2_with (first | ((with_reducible refine gate_callee (f := 41) rfl ?_); refine goesL_ (some 9) rfl rfl Try.func41 (by kernel_rfl) rfl #[.slice A0 l0.length c0, .int .i64 1048576] rfl (by (try simp only [List.map_toArray, List.map_cons, List.map_nil]); first | done | rfl | (simp only [List.length_drop, List.length_take]; rfl)) ?_; (with_reducible refine (laws_szSeriesS.calls k _ _ l0 1048576 t601 _ ?side1 ?side2 A2.out).mono ?_); (case side1 => repeat (first | exact HR0.out | (with_reducible refine Kd.C_alloc ?_ _) | (with_reducible refine Kd.C_drewN ?_ _) | (with_reducible refine Kd.C_drew ?_))); (case side2 => exact HC0.out); rintro e w13 ⟨rfl, hb⟩; refine ⟨_, rfl, ?_⟩; have n0_ := Aside0.mk (below_step bl_ hb); clear HB; have HB := n0_; clear n0_; (try clear hb); (try clear hb2); (try clear hk); (try clear hi)) | ((with_reducible refine gate_callee (f := 43) rfl ?_); refine goesL_ (some 13) rfl rfl Try.func43 (by kernel_rfl) rfl #[.slice A0 l0.length c0] rfl (by (try simp only [List.map_toArray, List.map_cons, List.map_nil]); first | done | rfl | (simp only [List.length_drop, List.length_take]; rfl)) ?_; (with_reducible refine (laws_toSeriesS.calls k _ _ l0 t602 _ ?side1 ?side2 A5.out).mono ?_); (case side1 => repeat (first | exact (Kd.C_below HR0.out HB.out) | (with_reducible refine Kd.C_alloc ?_ _) | (with_reducible refine Kd.C_drewN ?_ _) | (with_reducible refine Kd.C_drew ?_))); (case side2 => exact HC0.out); rintro e w14 ⟨v603, rfl, ho0, hb⟩; refine ⟨_, rfl, ?_⟩; have n0_ := Aside0.mk (Kd.S_lower ho0 (below_size bl_)); have n1_ := Aside0.mk (below_step bl_ hb); clear HB; have HO604 := n0_; have HB := n1_; clear n0_ n1_; (try clear hb); (try clear hb2); (try clear hk); (try clear hi); (try clear ho0); obtain ⟨Ao15, co15, eo15⟩ := Kd.S_slice HO604.out; subst eo15) | ((with_reducible refine gate_callee (f := 42) rfl ?_); refine goesL_ (some 14) rfl rfl Try.func42 (by kernel_rfl) rfl #[.slice Ao15 t602.length co15] rfl (by (try simp only [List.map_toArray, List.map_cons, List.map_nil]); first | done | rfl | (simp only [List.length_drop, List.length_take]; rfl)) ?_; (with_reducible refine (spec_GoodSeries.calls k _ _ t602 t605 _ ?side1 ?side2 A6.out).mono ?_); (case side1 => repeat (first | exact (Kd.S_reads' HO604.out).2.2 | (with_reducible refine Kd.C_alloc ?_ _) | (with_reducible refine Kd.C_drewN ?_ _) | (with_reducible refine Kd.C_drew ?_))); (case side2 => exact (Kd.S_reads' HO604.out).2.1); rintro e w16 ⟨rfl, hb⟩; refine ⟨_, rfl, ?_⟩; have n0_ := Aside0.mk (Kd.S_below (by (with_reducible repeat (first | apply Kd.S_alloc | apply Kd.S_drewN | apply Kd.S_drew)); exact HO604.out) hb); have n1_ := Aside0.mk (below_step bl_ hb); clear HO604; clear HB; have HO604 := n0_; have HB := n1_; clear n0_ n1_; (try clear hb); (try clear hb2); (try clear hk); (try clear hi)) | ((with_reducible refine gate_callee (f := 43) rfl ?_); refine goesL_ (some 16) rfl rfl Try.func43 (by kernel_rfl) rfl #[.slice A0 l0.length c0] rfl (by (try simp only [List.map_toArray, List.map_cons, List.map_nil]); first | done | rfl | (simp only [List.length_drop, List.length_take]; rfl)) ?_; (with_reducible refine (laws_toSeriesS.calls k _ _ l0 t606 _ ?side1 ?side2 A7.out).mono ?_); (case side1 => repeat (first | exact (Kd.C_below HR0.out HB.out) | (with_reducible refine Kd.C_alloc ?_ _) | (with_reducible refine Kd.C_drewN ?_ _) | (with_reducible refine Kd.C_drew ?_))); (case side2 => exact HC0.out); rintro e w17 ⟨v607, rfl, ho0, hb⟩; refine ⟨_, rfl, ?_⟩; have n0_ := Aside0.mk (Kd.S_elder' (by (with_reducible repeat (first | apply Kd.S_alloc | apply Kd.S_drewN | apply Kd.S_drew)); exact HO604.out) (Kd.S_base ho0) hb); have n1_ := Aside0.mk (Kd.S_lower (Kd.S_new' ho0 (Kd.S_lt (by (with_reducible repeat (first | apply Kd.S_alloc | apply Kd.S_drewN | apply Kd.S_drew)); exact HO604.out))) (below_size bl_)); have n2_ := Aside0.mk (below_step bl_ hb); clear HO604; clear HB; have HO604 := n0_; have HO608 := n1_; have HB := n2_; clear n0_ n1_ n2_; (try clear hb); (try clear hb2); (try clear hk); (try clear hi); (try clear ho0); obtain ⟨Ao18, co18, eo18⟩ := Kd.S_slice HO608.out; subst eo18) | ((with_reducible refine gate_callee (f := 44) rfl ?_); refine goesL_ (some 18) rfl rfl Try.func44 (by kernel_rfl) rfl #[.slice Ao18 t606.length co18] rfl (by (try simp only [List.map_toArray, List.map_cons, List.map_nil]); first | done | rfl | (simp only [List.length_drop, List.length_take]; rfl)) ?_; (with_reducible refine (impl_GoodSeries.calls k _ _ t606 t609 _ ?side1 ?side2 A8.out).mono ?_); (case side1 => repeat (first | exact (Kd.S_reads' HO608.out).2.2 | (with_reducible refine Kd.C_alloc ?_ _) | (with_reducible refine Kd.C_drewN ?_ _) | (with_reducible refine Kd.C_drew ?_))); (case side2 => exact (Kd.S_reads' HO608.out).2.1); rintro e w19 ⟨rfl, hb⟩; refine ⟨_, rfl, ?_⟩; have n0_ := Aside0.mk (Kd.S_below (by (with_reducible repeat (first | apply Kd.S_alloc | apply Kd.S_drewN | apply Kd.S_drew)); exact HO604.out) hb); have n1_ := Aside0.mk (Kd.S_below (by (with_reducible repeat (first | apply Kd.S_alloc | apply Kd.S_drewN | apply Kd.S_drew)); exact HO608.out) hb); have n2_ := Aside0.mk (below_step bl_ hb); clear HO604; clear HO608; clear HB; have HO604 := n0_; have HO608 := n1_; have HB := n2_; clear n0_ n1_ n2_; (try clear hb); (try clear hb2); (try clear hk); (try clear hi)) | ((with_reducible refine gate_callee (f := 43) rfl ?_); refine goesL_ (some 24) rfl rfl Try.func43 (by kernel_rfl) rfl #[.slice A0 l0.length c0] rfl (by (try simp only [List.map_toArray, List.map_cons, List.map_nil]); first | done | rfl | (simp only [List.length_drop, List.length_take]; rfl)) ?_; (with_reducible refine (laws_toSeriesS.calls k _ _ l0 t610 _ ?side1 ?side2 A10.out).mono ?_); (case side1 => repeat (first | exact (Kd.C_below HR0.out HB.out) | (with_reducible refine Kd.C_alloc ?_ _) | (with_reducible refine Kd.C_drewN ?_ _) | (with_reducible refine Kd.C_drew ?_))); (case side2 => exact HC0.out); rintro e w20 ⟨v611, rfl, ho0, hb⟩; refine ⟨_, rfl, ?_⟩; have n0_ := Aside0.mk (Kd.S_elder' (by (with_reducible repeat (first | apply Kd.S_alloc | apply Kd.S_drewN | apply Kd.S_drew)); exact HO604.out) (Kd.S_base ho0) hb); have n1_ := Aside0.mk (Kd.S_elder' (by (with_reducible repeat (first | apply Kd.S_alloc | apply Kd.S_drewN | apply Kd.S_drew)); exact HO608.out) (Kd.S_base ho0) hb); have n2_ := Aside0.mk (Kd.S_lower (Kd.S_new' (Kd.S_new' ho0 (Kd.S_lt (by (with_reducible repeat (first | apply Kd.S_alloc | apply Kd.S_drewN | apply Kd.S_drew)); exact HO604.out))) (Kd.S_lt (by (with_reducible repeat (first | apply Kd.S_alloc | apply Kd.S_drewN | apply Kd.S_drew)); exact HO608.out))) (below_size bl_)); have n3_ := Aside0.mk (below_step bl_ hb); clear HO604; clear HO608; clear HB; have HO604 := n0_; have HO608 := n1_; have HO612 := n2_; have HB := n3_; clear n0_ n1_ n2_ n3_; (try clear hb); (try clear hb2); (try clear hk); (try clear hi); (try clear ho0); obtain ⟨Ao21, co21, eo21⟩ := Kd.S_slice HO612.out; subst eo21) | ((with_reducible refine gate_callee (f := 45) rfl ?_); refine goesL_ (some 25) rfl rfl Try.func45 (by kernel_rfl) rfl #[.slice Ao18 t606.length co18, .slice Ao21 t610.length co21] rfl (by (try simp only [List.map_toArray, List.map_cons, List.map_nil]); first | done | rfl | (simp only [List.length_drop, List.length_take]; rfl)) ?_; (with_reducible refine (laws_eqSeriesS.calls k _ _ t606 _ _ t610 true _ ?side1 ?side2 ?side3 ?side4 A11.out).mono ?_); (case side1 => repeat (first | exact (Kd.S_reads' HO608.out).2.2 | (with_reducible refine Kd.C_alloc ?_ _) | (with_reducible refine Kd.C_drewN ?_ _) | (with_reducible refine Kd.C_drew ?_))); (case side2 => exact (Kd.S_reads' HO608.out).2.1); (case side3 => repeat (first | exact (Kd.S_reads' HO612.out).2.2 | (with_reducible refine Kd.C_alloc ?_ _) | (with_reducible refine Kd.C_drewN ?_ _) | (with_reducible refine Kd.C_drew ?_))); (case side4 => exact (Kd.S_reads' HO612.out).2.1); rintro e w22 ⟨rfl, hb⟩; refine ⟨_, rfl, ?_⟩; have n0_ := Aside0.mk (Kd.S_below (by (with_reducible repeat (first | apply Kd.S_alloc | apply Kd.S_drewN | apply Kd.S_drew)); exact HO604.out) hb); have n1_ := Aside0.mk (Kd.S_below (by (with_reducible repeat (first | apply Kd.S_alloc | apply Kd.S_drewN | apply Kd.S_drew)); exact HO608.out) hb); have n2_ := Aside0.mk (Kd.S_below (by (with_reducible repeat (first | apply Kd.S_alloc | apply Kd.S_drewN | apply Kd.S_drew)); exact HO612.out) hb); have n3_ := Aside0.mk (below_step bl_ hb); clear HO604; clear HO608; clear HO612; clear HB; have HO604 := n0_; have HO608 := n1_; have HO612 := n2_; have HB := n3_; clear n0_ n1_ n2_ n3_; (try clear hb); (try clear hb2); (try clear hk); (try clear hi)))
    go_ret
    exact ⟨by first | rfl | (simp [errW_none, errW_some] <;> rfl) | (simp [*, errW_none, errW_some] <;> rfl) | (simp [*, Go.Proofs.Ythgeohdpjedhnaa.Gt.nil_bne]; done), bl_⟩
   ·replace c12 := Bool.eq_false_iff.mpr c12
    subst c12
    have H1 : (none) = some r := by rw [if_neg (show ¬ (false = true) by decide)] at H; exact H
    clear H
    have H := H1
    clear H1
    exact absurd H (by simp)

end Go.Proofs.Ythgeohdpjedhnaa.Pr
