/- Functions of the given program as plain Lean functions, and that the machine's calls come to them; written by a program of this session; no condition but those that each theorem states. -/
import Derived.Test.YthgeohdpjedhnaaPrx0
import Derived.Test.YthgeohdpjedhnaaPrxg3ed36n1
namespace Go.Proofs.Ythgeohdpjedhnaa.Pr
open Go.RowKit Go.Proofs.YthgeohdpjedhnaaW.PrintWords Go.Proofs.YthgeohdpjedhnaaW.PrintLast Go.Proofs.YthgeohdpjedhnaaW.PrintMore
attribute [local go_sem] max2_int min2_int max_two min_two max_three min_three max_four min_four   -- for this text's walks alone
set_option linter.unusedVariables false
set_option linter.unusedSimpArgs false

/-! ### laws_FnExactGoodHead: function 12 -/
def laws_FnExactGoodHead.f (k : Nat) (a0_0 : Int) (a0_1 : Int) (a0_2 : Int) (l0_3 : List (S100)) : Option (Bool) := (laws_szHead.f k a0_0 a0_1 a0_2 l0_3 1048576).bind fun t1002 => (if t1002 < 0 then (some true) else ((laws_toHead.f k a0_0 a0_1 a0_2 l0_3).bind fun bt1003 => ((spec_GoodHead.f k bt1003.1 bt1003.2.1 bt1003.2.2.1 bt1003.2.2.2).bind fun t1009 => ((laws_toHead.f k a0_0 a0_1 a0_2 l0_3).bind fun bt1010 => ((impl_GoodHead.f k bt1010.1 bt1010.2.1 bt1010.2.2.1 bt1010.2.2.2).bind fun t1017 => (if (t1017 != t1009) = true then (none) else ((laws_toHead.f k a0_0 a0_1 a0_2 l0_3).bind fun bt1018 => ((laws_eqHead.f k bt1010.1 bt1010.2.1 bt1010.2.2.1 bt1010.2.2.2 bt1018.1 bt1018.2.1 bt1018.2.2.1 bt1018.2.2.2).bind fun t1024 => (if t1024 = true then (some true) else (none))))))))))
theorem laws_FnExactGoodHead.mono : ∀ a0 a1 a2 a3 k, LeO (laws_FnExactGoodHead.f k a0 a1 a2 a3) (laws_FnExactGoodHead.f (k + 1) a0 a1 a2 a3) := by
 intro a0 a1 a2 a3 k
 unfold laws_FnExactGoodHead.f
 repeat' first
   | with_reducible first | exact impl_GoodHead.mono _ _ _ _ _ | exact laws_eqHead.mono _ _ _ _ _ _ _ _ _ | exact laws_szHead.mono _ _ _ _ _ _ | exact laws_toHead.mono _ _ _ _ _ | exact spec_GoodHead.mono _ _ _ _ _ | exact LeO.refl _ | exact LeO.none _ | refine LeO.ite ?_ ?_ | refine LeO.bind ?_ (fun _ => ?_)
   | exact impl_GoodHead.mono _ _ _ _ _
   | exact laws_eqHead.mono _ _ _ _ _ _ _ _ _
   | exact laws_szHead.mono _ _ _ _ _ _
   | exact laws_toHead.mono _ _ _ _ _
   | exact spec_GoodHead.mono _ _ _ _ _
   | exact LeO.none _
   | refine LeO.ite ?_ ?_
   | refine LeO.bind ?_ (fun _ => ?_)
set_option maxHeartbeats 8000000 in
set_option maxRecDepth 100000 in
theorem laws_FnExactGoodHead.calls (k : Nat) (a0_0 : Int) (a0_1 : Int) (a0_2 : Int) (A0_3 : Option Addr) (c0_3 : Nat) (l0_3 : List (S100)) (r : Bool) (w : World) (hr0_3 : Kd.C k100 w A0_3 l0_3.length l0_3) (hc0_3 : l0_3.length ≤ c0_3) (h : laws_FnExactGoodHead.f k a0_0 a0_1 a0_2 l0_3 = some r) :
  Calls Try.prog 12 #[.agg #[.int .i64 a0_0, .int .i64 a0_1, .int .i64 a0_2, .slice A0_3 l0_3.length c0_3]] w fun e w' => e = .returned (.bool r) ∧ Below w.heap.size w w' := by
 have hu61 := Try.underlying61
 have hu65 := Try.underlying65
 have HR0_3 := am_ hr0_3
 have HC0_3 := am_ hc0_3
 clear hr0_3 hc0_3
 have HB := am_ (Below.refl w.heap.size w)
 have H : ((laws_szHead.f k a0_0 a0_1 a0_2 l0_3 1048576).bind fun t1002 => (if t1002 < 0 then (some true) else ((laws_toHead.f k a0_0 a0_1 a0_2 l0_3).bind fun bt1003 => ((spec_GoodHead.f k bt1003.1 bt1003.2.1 bt1003.2.2.1 bt1003.2.2.2).bind fun t1009 => ((laws_toHead.f k a0_0 a0_1 a0_2 l0_3).bind fun bt1010 => ((impl_GoodHead.f k bt1010.1 bt1010.2.1 bt1010.2.2.1 bt1010.2.2.2).bind fun t1017 => (if (t1017 != t1009) = true then (none) else ((laws_toHead.f k a0_0 a0_1 a0_2 l0_3).bind fun bt1018 => ((laws_eqHead.f k bt1010.1 bt1010.2.1 bt1010.2.2.1 bt1010.2.2.2 bt1018.1 bt1018.2.1 bt1018.2.2.1 bt1018.2.2.2).bind fun t1024 => (if t1024 = true then (some true) else (none))))))))))) = some r := h
 clear h
 replace H := Option.bind_eq_some_iff.mp H
 obtain ⟨t1002, A20, H⟩ := H
 replace H : (if t1002 < 0 then (some true) else ((laws_toHead.f k a0_0 a0_1 a0_2 l0_3).bind fun bt1003 => ((spec_GoodHead.f k bt1003.1 bt1003.2.1 bt1003.2.2.1 bt1003.2.2.2).bind fun t1009 => ((laws_toHead.f k a0_0 a0_1 a0_2 l0_3).bind fun bt1010 => ((impl_GoodHead.f k bt1010.1 bt1010.2.1 bt1010.2.2.1 bt1010.2.2.2).bind fun t1017 => (if (t1017 != t1009) = true then (none) else ((laws_toHead.f k a0_0 a0_1 a0_2 l0_3).bind fun bt1018 => ((laws_eqHead.f k bt1010.1 bt1010.2.1 bt1010.2.2.1 bt1010.2.2.2 bt1018.1 bt1018.2.1 bt1018.2.2.1 bt1018.2.2.2).bind fun t1024 => (if t1024 = true then (some true) else (none)))))))))) = some r := H
 have A2 := am_ A20
 clear A20
 by_cases c3 : t1002 < 0
 ·rw [if_pos c3] at H
  have c3b0 : decide (t1002 < 0) = true := decide_eq_true c3
  clear c3
  obtain rfl := Option.some.inj H
  go_enter Try.func12, Try.ntmps12
  go_wp2_with (first | ((with_reducible refine gate_dst (N := 1) rfl ?_); refine box_event ?hg (N := 1) ?hd (cs := #[.int .i64 a0_0, .int .i64 a0_1, .int .i64 a0_2, .slice A0_3 l0_3.length c0_3]) (t := 61) ?hr ?_; (case hd => rfl); (case hg => rfl); (case hr => first | (go_simp; done) | (go_simp; rfl)); intro gb1001 hg w4 hbox hb; have n0_ := am_ (below_step bl_ hb); have n1_ := am_ (hbox); have n2_ := am_ (gs_ hg : w.heap.size ≤ gb1001); have n3_ := n2_; clear HB; have HB := n0_; have BK1001 := n1_; have GW1001 := n2_; have GE1001 := n3_; clear n0_ n1_ n2_ n3_; clear hb hbox hg; have hcz5_0 := bc4_0 BK1001; have hcz5_1 := bc4_1 BK1001; have hcz5_2 := bc4_2 BK1001; have hcz5_3 := bc4_3 BK1001; have hfz5_0 := bf_ BK1001 0; have hfz5_1 := bf_ BK1001 1; have hfz5_2 := bf_ BK1001 2; have hfz5_3 := bf_ BK1001 3) | ((with_reducible refine gate_callee (f := 48) rfl ?_); refine goesL_ (some 9) rfl rfl Try.func48 (by kernel_rfl) rfl #[.agg #[.int .i64 a0_0, .int .i64 a0_1, .int .i64 a0_2, .slice A0_3 l0_3.length c0_3], .int .i64 1048576] rfl ag_ ?_; (with_reducible refine (laws_szHead.calls k a0_0 a0_1 a0_2 _ _ l0_3 1048576 t1002 _ ?side1 ?side2 A2.out).mono ?_); (case side1 => exact cc_ (Kd.C_below HR0_3.out HB.out)); (case side2 => exact HC0_3.out); rintro e w6 ⟨rfl, hb⟩; refine ⟨_, rfl, ?_⟩; have n0_ := am_ (blk_below (g := gb1001) (vk_ BK1001) hb); have n1_ := am_ (below_step bg_ hb); clear BK1001; clear HB; have BK1001 := n0_; have HB := n1_; clear n0_ n1_; (try clear hb); (try clear hb2); (try clear hk); (try clear hi)))
  go_ret
  exact ⟨rf_, bg_⟩
 ·rw [if_neg c3] at H
  have c3b0 : decide (t1002 < 0) = false := decide_eq_false c3
  clear c3
  replace H := Option.bind_eq_some_iff.mp H
  obtain ⟨⟨t1003, t1004, t1005, t1006⟩, A70, H⟩ := H
  replace H : ((spec_GoodHead.f k t1003 t1004 t1005 t1006).bind fun t1009 => ((laws_toHead.f k a0_0 a0_1 a0_2 l0_3).bind fun bt1010 => ((impl_GoodHead.f k bt1010.1 bt1010.2.1 bt1010.2.2.1 bt1010.2.2.2).bind fun t1017 => (if (t1017 != t1009) = true then (none) else ((laws_toHead.f k a0_0 a0_1 a0_2 l0_3).bind fun bt1018 => ((laws_eqHead.f k bt1010.1 bt1010.2.1 bt1010.2.2.1 bt1010.2.2.2 bt1018.1 bt1018.2.1 bt1018.2.2.1 bt1018.2.2.2).bind fun t1024 => (if t1024 = true then (some true) else (none)))))))) = some r := H
  have A7 := am_ A70
  clear A70
  replace H := Option.bind_eq_some_iff.mp H
  obtain ⟨t1009, A80, H⟩ := H
  replace H : ((laws_toHead.f k a0_0 a0_1 a0_2 l0_3).bind fun bt1010 => ((impl_GoodHead.f k bt1010.1 bt1010.2.1 bt1010.2.2.1 bt1010.2.2.2).bind fun t1017 => (if (t1017 != t1009) = true then (none) else ((laws_toHead.f k a0_0 a0_1 a0_2 l0_3).bind fun bt1018 => ((laws_eqHead.f k bt1010.1 bt1010.2.1 bt1010.2.2.1 bt1010.2.2.2 bt1018.1 bt1018.2.1 bt1018.2.2.1 bt1018.2.2.2).bind fun t1024 => (if t1024 = true then (some true) else (none))))))) = some r := H
  have A8 := am_ A80
  clear A80
  replace H := Option.bind_eq_some_iff.mp H
  obtain ⟨⟨t1010, t1011, t1012, t1013⟩, A90, H⟩ := H
  replace H : ((impl_GoodHead.f k t1010 t1011 t1012 t1013).bind fun t1017 => (if (t1017 != t1009) = true then (none) else ((laws_toHead.f k a0_0 a0_1 a0_2 l0_3).bind fun bt1018 => ((laws_eqHead.f k t1010 t1011 t1012 t1013 bt1018.1 bt1018.2.1 bt1018.2.2.1 bt1018.2.2.2).bind fun t1024 => (if t1024 = true then (some true) else (none)))))) = some r := H
  have A9 := am_ A90
  clear A90
  replace H := Option.bind_eq_some_iff.mp H
  obtain ⟨t1017, A100, H⟩ := H
  replace H : (if (t1017 != t1009) = true then (none) else ((laws_toHead.f k a0_0 a0_1 a0_2 l0_3).bind fun bt1018 => ((laws_eqHead.f k t1010 t1011 t1012 t1013 bt1018.1 bt1018.2.1 bt1018.2.2.1 bt1018.2.2.2).bind fun t1024 => (if t1024 = true then (some true) else (none))))) = some r := H
  have A10 := am_ A100
  clear A100
  by_cases c11 : (t1017 != t1009) = true
  ·rw [if_pos c11] at H
   exact absurd H (by simp)
  ·rw [if_neg c11] at H
   have c11b0 : (t1017 != t1009) = false := by simpa using c11
   (try (have c11b1 : decide (t1017 = t1009) = true := by simpa using c11))
   (try (have c11b2 : (t1017 == t1009) = true := by simpa using c11))
   clear c11
   replace H := Option.bind_eq_some_iff.mp H
   obtain ⟨⟨t1018, t1019, t1020, t1021⟩, A120, H⟩ := H
   replace H : ((laws_eqHead.f k t1010 t1011 t1012 t1013 t1018 t1019 t1020 t1021).bind fun t1024 => (if t1024 = true then (some true) else (none))) = some r := H
   have A12 := am_ A120
   clear A120
   replace H := Option.bind_eq_some_iff.mp H
   obtain ⟨t1024, A130, H⟩ := H
   replace H : (if t1024 = true then (some true) else (none)) = some r := H
   have A13 := am_ A130
   clear A130
   by_cases c14 : t1024 = true
   ·subst c14
    have H1 : (some true) = some r := by rw [if_pos rfl] at H; exact H
    clear H
    have H := H1
    clear H1
    obtain rfl := Option.some.inj H
    go_enter Try.func12, Try.ntmps12
    try go_wp2_with (first | ((with_reducible refine gate_dst (N := 1) rfl ?_); refine box_event ?hg (N := 1) ?hd (cs := #[.int .i64 a0_0, .int .i64 a0_1, .int .i64 a0_2, .slice A0_3 l0_3.length c0_3]) (t := 61) ?hr ?_; (case hd => rfl); (case hg => rfl); (case hr => first | (go_simp; done) | (go_simp; rfl)); intro gb1001 hg w15 hbox hb; have n0_ := am_ (below_step bl_ hb); have n1_ := am_ (hbox); have n2_ := am_ (gs_ hg : w.heap.size ≤ gb1001); have n3_ := n2_; clear HB; have HB := n0_; have BK1001 := n1_; have GW1001 := n2_; have GE1001 := n3_; clear n0_ n1_ n2_ n3_; clear hb hbox hg; have hcz16_0 := bc4_0 BK1001; have hcz16_1 := bc4_1 BK1001; have hcz16_2 := bc4_2 BK1001; have hcz16_3 := bc4_3 BK1001; have hfz16_0 := bf_ BK1001 0; have hfz16_1 := bf_ BK1001 1; have hfz16_2 := bf_ BK1001 2; have hfz16_3 := bf_ BK1001 3) | ((with_reducible refine gate_callee (f := 48) rfl ?_); refine goesL_ (some 9) rfl rfl Try.func48 (by kernel_rfl) rfl #[.agg #[.int .i64 a0_0, .int .i64 a0_1, .int .i64 a0_2, .slice A0_3 l0_3.length c0_3], .int .i64 1048576] rfl ag_ ?_; (with_reducible refine (laws_szHead.calls k a0_0 a0_1 a0_2 _ _ l0_3 1048576 t1002 _ ?side1 ?side2 A2.out).mono ?_); (case side1 => exact cc_ (Kd.C_below HR0_3.out HB.out)); (case side2 => exact HC0_3.out); rintro e w17 ⟨rfl, hb⟩; refine ⟨_, rfl, ?_⟩; have n0_ := am_ (blk_below (g := gb1001) (vk_ BK1001) hb); have n1_ := am_ (below_step bg_ hb); clear BK1001; clear HB; have BK1001 := n0_; have HB := n1_; clear n0_ n1_; (try clear hb); (try clear hb2); (try clear hk); (try clear hi); have hcz18_0 := bc4_0 BK1001; have hcz18_1 := bc4_1 BK1001; have hcz18_2 := bc4_2 BK1001; have hcz18_3 := bc4_3 BK1001; have hfz18_0 := bf_ BK1001 0; have hfz18_1 := bf_ BK1001 1; have hfz18_2 := bf_ BK1001 2; have hfz18_3 := bf_ BK1001 3) | ((with_reducible refine gate_callee (f := 50) rfl ?_); refine goesL_ (some 13) rfl rfl Try.func50 (by kernel_rfl) rfl #[.agg #[.int .i64 a0_0, .int .i64 a0_1, .int .i64 a0_2, .slice A0_3 l0_3.length c0_3]] rfl ag_ ?_; (with_reducible refine (laws_toHead.calls k a0_0 a0_1 a0_2 _ _ l0_3 t1003 t1004 t1005 t1006 _ ?side1 ?side2 A7.out).mono ?_); (case side1 => exact cc_ (Kd.C_below HR0_3.out HB.out)); (case side2 => exact HC0_3.out); rintro e w19 ⟨v1007, rfl, ho0, hb⟩; refine ⟨_, rfl, ?_⟩; have n0_ := am_ (Kd.S_lower ho0 (below_size bg_)); have n1_ := am_ (blk_below (g := gb1001) (vk_ BK1001) hb); have n2_ := am_ (below_step bg_ hb); clear BK1001; clear HB; have HO1008 := n0_; have BK1001 := n1_; have HB := n2_; clear n0_ n1_ n2_; (try clear hb); (try clear hb2); (try clear hk); (try clear hi); (try clear ho0); obtain ⟨Ao20, co20, eo20⟩ := Kd.S_slice HO1008.out; subst eo20) | ((with_reducible refine gate_callee (f := 49) rfl ?_); refine goesL_ (some 14) rfl rfl Try.func49 (by kernel_rfl) rfl #[.agg #[.int .i64 t1003, .int .i64 t1004, .int .i64 t1005, .slice Ao20 t1006.length co20]] rfl ag_ ?_; (with_reducible refine (spec_GoodHead.calls k t1003 t1004 t1005 _ _ t1006 t1009 _ ?side1 ?side2 A8.out).mono ?_); (case side1 => exact cc_ (Kd.S_reads' HO1008.out).2.2); (case side2 => exact (Kd.S_reads' HO1008.out).2.1); rintro e w21 ⟨rfl, hb⟩; refine ⟨_, rfl, ?_⟩; have n0_ := am_ (Kd.S_below (by (with_reducible repeat (first | apply Kd.S_alloc | apply Kd.S_drewN | apply Kd.S_drew)); exact HO1008.out) hb); have n1_ := am_ (blk_below (g := gb1001) (vk_ BK1001) hb); have n2_ := am_ (below_step bg_ hb); clear HO1008; clear BK1001; clear HB; have HO1008 := n0_; have BK1001 := n1_; have HB := n2_; clear n0_ n1_ n2_; (try clear hb); (try clear hb2); (try clear hk); (try clear hi); have hcz22_0 := bc4_0 BK1001; have hcz22_1 := bc4_1 BK1001; have hcz22_2 := bc4_2 BK1001; have hcz22_3 := bc4_3 BK1001; have hfz22_0 := bf_ BK1001 0; have hfz22_1 := bf_ BK1001 1; have hfz22_2 := bf_ BK1001 2; have hfz22_3 := bf_ BK1001 3) | ((with_reducible refine gate_callee (f := 50) rfl ?_); refine goesL_ (some 16) rfl rfl Try.func50 (by kernel_rfl) rfl #[.agg #[.int .i64 a0_0, .int .i64 a0_1, .int .i64 a0_2, .slice A0_3 l0_3.length c0_3]] rfl ag_ ?_; (with_reducible refine (laws_toHead.calls k a0_0 a0_1 a0_2 _ _ l0_3 t1010 t1011 t1012 t1013 _ ?side1 ?side2 A9.out).mono ?_); (case side1 => exact cc_ (Kd.C_below HR0_3.out HB.out)); (case side2 => exact HC0_3.out); rintro e w23 ⟨v1014, rfl, ho0, hb⟩; refine ⟨_, rfl, ?_⟩; have n0_ := am_ (Kd.S_elder' (by (with_reducible repeat (first | apply Kd.S_alloc | apply Kd.S_drewN | apply Kd.S_drew)); exact HO1008.out) (Kd.S_base ho0) hb); have n1_ := am_ (Kd.S_lower (Kd.S_new' ho0 (Kd.S_lt (by (with_reducible repeat (first | apply Kd.S_alloc | apply Kd.S_drewN | apply Kd.S_drew)); exact HO1008.out))) (below_size bg_)); have n2_ := am_ (blk_below (g := gb1001) (vk_ BK1001) hb); have n3_ := am_ (below_step bg_ hb); clear HO1008; clear BK1001; clear HB; have HO1008 := n0_; have HO1015 := n1_; have BK1001 := n2_; have HB := n3_; clear n0_ n1_ n2_ n3_; (try clear hb); (try clear hb2); (try clear hk); (try clear hi); (try clear ho0)) | ((with_reducible refine gate_dst (N := 5) rfl ?_); refine box_event ?hg (N := 5) ?hd (cs := #[.int .i64 0, .int .i64 0, .int .i64 0, .slice none 0 0]) (t := 65) ?hr ?_; (case hd => rfl); (case hg => rfl); (case hr => first | (go_simp; done) | (go_simp; rfl)); intro gb1016 hg w24 hbox hb; have n0_ := am_ (Kd.S_below (by (with_reducible repeat (first | apply Kd.S_alloc | apply Kd.S_drewN | apply Kd.S_drew)); exact HO1008.out) hb); have n1_ := am_ (Kd.S_below (by (with_reducible repeat (first | apply Kd.S_alloc | apply Kd.S_drewN | apply Kd.S_drew)); exact HO1015.out) hb); have n2_ := am_ (blk_below (g := gb1001) (vk_ BK1001) hb); have n3_ := am_ (below_step bg_ hb); have n4_ := am_ (hbox); have n5_ := am_ (gg_ hg : w.heap.size ≤ gb1016); have n6_ := n5_; have n7_ := am_ ((by rw [hg]; exact Nat.ne_of_lt (blk_lt (g := gb1001) (o := .cells #[.int .i64 a0_0, .int .i64 a0_1, .int .i64 a0_2, .slice A0_3 l0_3.length c0_3] 61 (0, 0)) (vk_ BK1001)) : gb1001 ≠ gb1016)); have n8_ := am_ ((by rw [hg]; exact Nat.ne_of_gt (blk_lt (g := gb1001) (o := .cells #[.int .i64 a0_0, .int .i64 a0_1, .int .i64 a0_2, .slice A0_3 l0_3.length c0_3] 61 (0, 0)) (vk_ BK1001)) : gb1016 ≠ gb1001)); clear HO1008; clear HO1015; clear BK1001; clear HB; have HO1008 := n0_; have HO1015 := n1_; have BK1001 := n2_; have HB := n3_; have BK1016 := n4_; have GW1016 := n5_; have GE1016 := n6_; have NB1001_1016 := n7_; have NB1016_1001 := n8_; clear n0_ n1_ n2_ n3_ n4_ n5_ n6_ n7_ n8_; clear hb hbox hg; have hnb25 := NB1016_1001.out; have hnc25 := NB1001_1016.out; have hcz26_0 := bc4_0 BK1016; have hcz26_1 := bc4_1 BK1016; have hcz26_2 := bc4_2 BK1016; have hcz26_3 := bc4_3 BK1016; have hfz26_0 := bf_ BK1016 0; have hfz26_1 := bf_ BK1016 1; have hfz26_2 := bf_ BK1016 2; have hfz26_3 := bf_ BK1016 3; obtain ⟨Ao27, co27, eo27⟩ := Kd.S_slice HO1015.out; subst eo27) | ((with_reducible refine gate_callee (f := 51) rfl ?_); refine goesL_ (some 18) rfl rfl Try.func51 (by kernel_rfl) rfl #[.agg #[.int .i64 t1010, .int .i64 t1011, .int .i64 t1012, .slice Ao27 t1013.length co27]] rfl ag_ ?_; (with_reducible refine (impl_GoodHead.calls k t1010 t1011 t1012 _ _ t1013 t1017 _ ?side1 ?side2 A10.out).mono ?_); (case side1 => refine (Kd.S_reads' (e := 103) (base := w.heap.size) (ok := fun k_ => (True ∧ some k_ ≠ (.slice Ao20 t1006.length co20 : Value).ownBlock)) (n := t1013.length) (c := co27) ?_).2.2; exact (by (with_reducible repeat (first | apply Kd.S_alloc | apply Kd.S_drewN | apply Kd.S_drew)); exact (Kd.S_mono (Kd.S_far (p := ⟨gb1016, 3, none⟩) (Kd.S_far (p := ⟨gb1016, 2, none⟩) (Kd.S_far (p := ⟨gb1016, 1, none⟩) (Kd.S_far (p := ⟨gb1016, 0, none⟩) (Kd.S_types HO1015.out BK1016.out (by decide)) (fun _ hk => hk.2) (.int .i64 t1010)) (fun _ hk => hk.2) (.int .i64 t1011)) (fun _ hk => hk.2) (.int .i64 t1012)) (fun _ hk => hk.2) (.slice Ao27 t1013.length co27)) (fun _ h_ => h_.1)))); (case side2 => exact (Kd.S_reads' HO1015.out).2.1); rintro e w28 ⟨rfl, hb⟩; refine ⟨_, rfl, ?_⟩; have n0_ := am_ (Kd.S_below (by (with_reducible repeat (first | apply Kd.S_alloc | apply Kd.S_drewN | apply Kd.S_drew)); exact (Kd.S_mono (Kd.S_far (p := ⟨gb1016, 3, none⟩) (Kd.S_far (p := ⟨gb1016, 2, none⟩) (Kd.S_far (p := ⟨gb1016, 1, none⟩) (Kd.S_far (p := ⟨gb1016, 0, none⟩) (Kd.S_types HO1008.out BK1016.out (by decide)) (fun _ hk => hk.2) (.int .i64 t1010)) (fun _ hk => hk.2) (.int .i64 t1011)) (fun _ hk => hk.2) (.int .i64 t1012)) (fun _ hk => hk.2) (.slice Ao27 t1013.length co27)) (fun _ h_ => h_.1))) hb); have n1_ := am_ (Kd.S_below (by (with_reducible repeat (first | apply Kd.S_alloc | apply Kd.S_drewN | apply Kd.S_drew)); exact (Kd.S_mono (Kd.S_far (p := ⟨gb1016, 3, none⟩) (Kd.S_far (p := ⟨gb1016, 2, none⟩) (Kd.S_far (p := ⟨gb1016, 1, none⟩) (Kd.S_far (p := ⟨gb1016, 0, none⟩) (Kd.S_types HO1015.out BK1016.out (by decide)) (fun _ hk => hk.2) (.int .i64 t1010)) (fun _ hk => hk.2) (.int .i64 t1011)) (fun _ hk => hk.2) (.int .i64 t1012)) (fun _ hk => hk.2) (.slice Ao27 t1013.length co27)) (fun _ h_ => h_.1))) hb); have n2_ := am_ (blk_below (g := gb1001) (o := .cells #[.int .i64 a0_0, .int .i64 a0_1, .int .i64 a0_2, .slice A0_3 l0_3.length c0_3] 61 (0, 0)) (by (with_reducible repeat (first | refine blk_drewN ?_ _ | refine blk_drew ?_ | refine blk_alloc ?_ _)); refine blk_far ?_ NB1001_1016.out _; (with_reducible repeat (first | refine blk_drewN ?_ _ | refine blk_drew ?_ | refine blk_alloc ?_ _)); refine blk_far ?_ NB1001_1016.out _; (with_reducible repeat (first | refine blk_drewN ?_ _ | refine blk_drew ?_ | refine blk_alloc ?_ _)); refine blk_far ?_ NB1001_1016.out _; (with_reducible repeat (first | refine blk_drewN ?_ _ | refine blk_drew ?_ | refine blk_alloc ?_ _)); refine blk_far ?_ NB1001_1016.out _; (with_reducible repeat (first | refine blk_drewN ?_ _ | refine blk_drew ?_ | refine blk_alloc ?_ _)); exact BK1001.out) hb); have n3_ := am_ (blk_below (g := gb1016) (o := .cells #[.int .i64 t1010, .int .i64 t1011, .int .i64 t1012, .slice Ao27 t1013.length co27] 65 (0, 0)) (by (with_reducible repeat (first | refine blk_drewN ?_ _ | refine blk_drew ?_ | refine blk_alloc ?_ _)); refine blk_put (cs := #[.int .i64 t1010, .int .i64 t1011, .int .i64 t1012, .slice none 0 0]) ?_ 3 _ rfl; (with_reducible repeat (first | refine blk_drewN ?_ _ | refine blk_drew ?_ | refine blk_alloc ?_ _)); refine blk_put (cs := #[.int .i64 t1010, .int .i64 t1011, .int .i64 0, .slice none 0 0]) ?_ 2 _ rfl; (with_reducible repeat (first | refine blk_drewN ?_ _ | refine blk_drew ?_ | refine blk_alloc ?_ _)); refine blk_put (cs := #[.int .i64 t1010, .int .i64 0, .int .i64 0, .slice none 0 0]) ?_ 1 _ rfl; (with_reducible repeat (first | refine blk_drewN ?_ _ | refine blk_drew ?_ | refine blk_alloc ?_ _)); refine blk_put (cs := #[.int .i64 0, .int .i64 0, .int .i64 0, .slice none 0 0]) ?_ 0 _ rfl; (with_reducible repeat (first | refine blk_drewN ?_ _ | refine blk_drew ?_ | refine blk_alloc ?_ _)); exact BK1016.out) hb); have n4_ := am_ (below_step bg_ hb); clear HO1008; clear HO1015; clear BK1001; clear BK1016; clear HB; have HO1008 := n0_; have HO1015 := n1_; have BK1001 := n2_; have BK1016 := n3_; have HB := n4_; clear n0_ n1_ n2_ n3_ n4_; (try clear hb); (try clear hb2); (try clear hk); (try clear hi)))
    have n0_ := am_ (Kd.S_drew HO1008.out)
    have n1_ := am_ (Kd.S_drew HO1015.out)
    have n2_ := am_ (blk_drew BK1001.out)
    have n3_ := am_ (blk_drew BK1016.out)
    have n4_ := am_ (below_drew1 HB.out)
    clear HO1008
    clear HO1015
    clear BK1001
    clear BK1016
    clear HB
    have HO1008 := n0_
    have HO1015 := n1_
    have BK1001 := n2_
    have BK1016 := n3_
    have HB := n4_
    clear n0_ n1_ n2_ n3_ n4_
    refine start_ (n := 5) (S := fun w' => w'.cell? ⟨gb1016, 0, none⟩ = some (.int .i64 t1010) ∧ w'.cell? ⟨gb1016, 1, none⟩ = some (.int .i64 t1011) ∧ w'.cell? ⟨gb1016, 2, none⟩ = some (.int .i64 t1012) ∧ w'.cell? ⟨gb1016, 3, none⟩ = some (.slice Ao27 t1013.length co27) ∧ w'.cell? ⟨gb1001, 0, none⟩ = some (.int .i64 a0_0) ∧ w'.cell? ⟨gb1001, 1, none⟩ = some (.int .i64 a0_1) ∧ w'.cell? ⟨gb1001, 2, none⟩ = some (.int .i64 a0_2) ∧ w'.cell? ⟨gb1001, 3, none⟩ = some (.slice A0_3 l0_3.length c0_3)) (ds := []) (bz 5 0) (by kernel_rfl) rfl rfl ⟨(blk_cell BK1016.out 0).trans rfl, (blk_cell BK1016.out 1).trans rfl, (blk_cell BK1016.out 2).trans rfl, (blk_cell BK1016.out 3).trans rfl, (blk_cell BK1001.out 0).trans rfl, (blk_cell BK1001.out 1).trans rfl, (blk_cell BK1001.out 2).trans rfl, (blk_cell BK1001.out 3).trans rfl⟩ (fun hHeld => ?_)
    generalize w28.drew = w29 at HO1008 HO1015 BK1001 BK1016 HB hHeld ⊢
    refine take_ (i := 0) (N := some 22) (v := ?_) (a' := ?_) (bz 5 1) rfl rfl (by kernel_rfl) (fun _ _ _ h => h) (Or.inl ⟨by rfl, ?_⟩) hHeld ?_ ?_
    rotate_left
    ·rintro w' ⟨s0, s1, s2, s3, s4, s5, s6, s7⟩
     go_simp
     with_reducible rfl
    rotate_left
    ·simp only [Act.put, List.setIfInBounds_toArray, List.set_cons_zero, List.set_cons_succ, i64_w, i32_w]
     rfl
    refine take_ (i := 1) (N := some 23) (v := ?_) (a' := ?_) (bz 5 3) rfl rfl (by kernel_rfl) (fun _ _ _ h => h) (Or.inl ⟨by rfl, ?_⟩) hHeld ?_ ?_
    rotate_left
    ·rintro w' ⟨s0, s1, s2, s3, s4, s5, s6, s7⟩
     go_simp
     with_reducible rfl
    rotate_left
    ·simp only [Act.put, List.setIfInBounds_toArray, List.set_cons_zero, List.set_cons_succ, i64_w, i32_w]
     rfl
    refine one_ (i := 2) (N := some 24) (bz 5 7) rfl rfl (by kernel_rfl) (by decide) (fun K hK => ?_)
    refine goes_ Try.func50 (by kernel_rfl) rfl #[.agg #[.int .i64 a0_0, .int .i64 a0_1, .int .i64 a0_2, .slice A0_3 l0_3.length c0_3]] (by rfl) rfl rfl ag_ ?_
    with_reducible refine (laws_toHead.calls k a0_0 a0_1 a0_2 _ _ l0_3 t1018 t1019 t1020 t1021 _ ?side1 ?side2 A12.out).mono ?_
    (case side1 => exact cc_ (Kd.C_below HR0_3.out HB.out))
    (case side2 => exact HC0_3.out)
    rintro e w30 ⟨v1022, rfl, ho0, hb⟩
    refine ⟨_, rfl, ?_⟩
    have n0_ := am_ (Kd.S_elder' (by (with_reducible repeat (first | apply Kd.S_alloc | apply Kd.S_drewN | apply Kd.S_drew)); exact HO1008.out) (Kd.S_base ho0) hb)
    have n1_ := am_ (Kd.S_elder' (by (with_reducible repeat (first | apply Kd.S_alloc | apply Kd.S_drewN | apply Kd.S_drew)); exact HO1015.out) (Kd.S_base ho0) hb)
    have n2_ := am_ (Kd.S_lower (Kd.S_new' (Kd.S_new' ho0 (Kd.S_lt (by (with_reducible repeat (first | apply Kd.S_alloc | apply Kd.S_drewN | apply Kd.S_drew)); exact HO1008.out))) (Kd.S_lt (by (with_reducible repeat (first | apply Kd.S_alloc | apply Kd.S_drewN | apply Kd.S_drew)); exact HO1015.out))) (below_size bg_))
    have n3_ := am_ (blk_below (g := gb1001) (vk_ BK1001) hb)
    have n4_ := am_ (blk_below (g := gb1016) (vk_ BK1016) hb)
    have n5_ := am_ (below_step bg_ hb)
    clear HO1008
    clear HO1015
    clear BK1001
    clear BK1016
    clear HB
    have HO1008 := n0_
    have HO1015 := n1_
    have HO1023 := n2_
    have BK1001 := n3_
    have BK1016 := n4_
    have HB := n5_
    clear n0_ n1_ n2_ n3_ n4_ n5_
    (try clear hb)
    (try clear hb2)
    (try clear hk)
    (try clear hi)
    (try clear ho0)
    obtain ⟨Ao31, co31, eo31⟩ := Kd.S_slice HO1023.out
    (first | subst eo31 | (injection eo31 with f1_ f2_ f3_; have f4_ := f1_.symm; have f5_ := f3_.symm; clear f1_ f2_ f3_; subst f4_; subst f5_))
    refine hK.out _ _ ⟨(blk_cell BK1016.out 0).trans rfl, (blk_cell BK1016.out 1).trans rfl, (blk_cell BK1016.out 2).trans rfl, (blk_cell BK1016.out 3).trans rfl, (blk_cell BK1001.out 0).trans rfl, (blk_cell BK1001.out 1).trans rfl, (blk_cell BK1001.out 2).trans rfl, (blk_cell BK1001.out 3).trans rfl⟩ (fun hHeld => ?_)
    clear hK K
    refine norm_ (a' := ?_) ?_ ?_
    rotate_left
    ·show Act.put _ (some 24) _ = _
     simp only [Act.put, List.setIfInBounds_toArray, List.set_cons_zero, List.set_cons_succ, i64_w, i32_w]
     rfl
    refine one_ (i := 3) (N := some 25) (bz 5 15) rfl rfl (by kernel_rfl) (by decide) (fun K hK => ?_)
    refine goes_ Try.func52 (by kernel_rfl) rfl #[.agg #[.int .i64 t1010, .int .i64 t1011, .int .i64 t1012, .slice Ao27 t1013.length co27], .agg #[.int .i64 t1018, .int .i64 t1019, .int .i64 t1020, .slice Ao31 t1021.length co31]] (by rfl) rfl rfl ag_ ?_
    with_reducible refine (laws_eqHead.calls k t1010 t1011 t1012 _ _ t1013 t1018 t1019 t1020 _ _ t1021 true _ ?side1 ?side2 ?side3 ?side4 A13.out).mono ?_
    (case side1 => exact cc_ (Kd.S_reads' HO1015.out).2.2)
    (case side2 => exact (Kd.S_reads' HO1015.out).2.1)
    (case side3 => exact cc_ (Kd.S_reads' HO1023.out).2.2)
    (case side4 => exact (Kd.S_reads' HO1023.out).2.1)
    rintro e w32 ⟨rfl, hb⟩
    refine ⟨_, rfl, ?_⟩
    have n0_ := am_ (Kd.S_below (by (with_reducible repeat (first | apply Kd.S_alloc | apply Kd.S_drewN | apply Kd.S_drew)); exact HO1008.out) hb)
    have n1_ := am_ (Kd.S_below (by (with_reducible repeat (first | apply Kd.S_alloc | apply Kd.S_drewN | apply Kd.S_drew)); exact HO1015.out) hb)
    have n2_ := am_ (Kd.S_below (by (with_reducible repeat (first | apply Kd.S_alloc | apply Kd.S_drewN | apply Kd.S_drew)); exact HO1023.out) hb)
    have n3_ := am_ (blk_below (g := gb1001) (vk_ BK1001) hb)
    have n4_ := am_ (blk_below (g := gb1016) (vk_ BK1016) hb)
    have n5_ := am_ (below_step bg_ hb)
    clear HO1008
    clear HO1015
    clear HO1023
    clear BK1001
    clear BK1016
    clear HB
    have HO1008 := n0_
    have HO1015 := n1_
    have HO1023 := n2_
    have BK1001 := n3_
    have BK1016 := n4_
    have HB := n5_
    clear n0_ n1_ n2_ n3_ n4_ n5_
    (try clear hb)
    (try clear hb2)
    (try clear hk)
    (try clear hi)
    refine hK.out _ _ ⟨(blk_cell BK1016.out 0).trans rfl, (blk_cell BK1016.out 1).trans rfl, (blk_cell BK1016.out 2).trans rfl, (blk_cell BK1016.out 3).trans rfl, (blk_cell BK1001.out 0).trans rfl, (blk_cell BK1001.out 1).trans rfl, (blk_cell BK1001.out 2).trans rfl, (blk_cell BK1001.out 3).trans rfl⟩ (fun hHeld => ?_)
    clear hK K
    refine norm_ (a' := ?_) ?_ ?_
    rotate_left
    ·show Act.put _ (some 25) _ = _
     simp only [Act.put, List.setIfInBounds_toArray, List.set_cons_zero, List.set_cons_succ, i64_w, i32_w]
     rfl
    refine pure_ (i := 4) (N := some 26) (v := ?_) (a' := ?_) (bz 5 31) rfl rfl (by kernel_rfl) (fun _ _ _ h => h) (Or.inl ⟨by rfl, ?_⟩) ?_ ?_
    rotate_left
    ·intro w'
     go_simp
     with_reducible rfl
    rotate_left
    ·simp only [Act.put, List.setIfInBounds_toArray, List.set_cons_zero, List.set_cons_succ, i64_w, i32_w]
     rfl
    refine done_ (by kernel_rfl) ?_
    try go_wp2
    go_ret
    exact ⟨rf_, bg_⟩
   ·replace c14 := Bool.eq_false_iff.mpr c14
    subst c14
    have H1 : (none) = some r := by rw [if_neg (show ¬ (false = true) by decide)] at H; exact H
    clear H
    have H := H1
    clear H1
    exact absurd H (by simp)

end Go.Proofs.Ythgeohdpjedhnaa.Pr
