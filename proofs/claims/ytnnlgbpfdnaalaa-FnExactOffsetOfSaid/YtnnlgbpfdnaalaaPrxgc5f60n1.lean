/- Functions of the given program as plain Lean functions, and that the machine's calls come to them; written by a program of this session; no condition but those that each theorem states. -/
import Derived.Test.YtnnlgbpfdnaalaaPrx0
import Derived.Test.YtnnlgbpfdnaalaaPrxgdf918n1
import Derived.Test.YtnnlgbpfdnaalaaPrxgdf918n2
import Derived.Test.YtnnlgbpfdnaalaaPrxgdbe75n1
namespace Go.Proofs.Ytnnlgbpfdnaalaa.Pr
open Go.RowKit Go.Proofs.YtnnlgbpfdnaalaaW.PrintWords Go.Proofs.YtnnlgbpfdnaalaaW.PrintLast Go.Proofs.YtnnlgbpfdnaalaaW.PrintMore
attribute [local go_sem] max2_int min2_int max_two min_two max_three min_three max_four min_four   -- for this text's walks alone
set_option linter.unusedVariables false
set_option linter.unusedSimpArgs false

/-! ### laws_FnExactOffsetOf: function 14 -/
def laws_FnExactOffsetOf.f (k : Nat) (l0_0 : List (S103)) (a0_1 : Int) (a0_2 : Int) (a0_3 : Bool) (l0_4 : List (S39)) : Option (Bool) := (laws_szTarget.f k l0_0 a0_1 a0_2 a0_3 l0_4 1048576).bind fun t1002 => (if t1002 < 0 then (some true) else ((laws_toTarget.f k l0_0 a0_1 a0_2 a0_3 l0_4).bind fun bt1003 => ((spec_OffsetOf.f k bt1003.1 bt1003.2.1 bt1003.2.2.1 bt1003.2.2.2.1 bt1003.2.2.2.2).bind fun t1012 => ((laws_toTarget.f k l0_0 a0_1 a0_2 a0_3 l0_4).bind fun bt1013 => ((impl_OffsetOf.f k bt1013.1 bt1013.2.1 bt1013.2.2.1 bt1013.2.2.2.1 bt1013.2.2.2.2).bind fun t1023 => (if t1023 = t1012 then ((laws_toTarget.f k l0_0 a0_1 a0_2 a0_3 l0_4).bind fun bt1024 => ((laws_eqTarget.f k bt1013.1 bt1013.2.1 bt1013.2.2.1 bt1013.2.2.2.1 bt1013.2.2.2.2 bt1024.1 bt1024.2.1 bt1024.2.2.1 bt1024.2.2.2.1 bt1024.2.2.2.2).bind fun t1033 => (if t1033 = true then (some true) else (none)))) else (none)))))))
theorem laws_FnExactOffsetOf.mono : ∀ a0 a1 a2 a3 a4 k, LeO (laws_FnExactOffsetOf.f k a0 a1 a2 a3 a4) (laws_FnExactOffsetOf.f (k + 1) a0 a1 a2 a3 a4) := by
 intro a0 a1 a2 a3 a4 k
 unfold laws_FnExactOffsetOf.f
 repeat' first
   | with_reducible first | exact impl_OffsetOf.mono _ _ _ _ _ _ | exact laws_eqTarget.mono _ _ _ _ _ _ _ _ _ _ _ | exact laws_szTarget.mono _ _ _ _ _ _ _ | exact laws_toTarget.mono _ _ _ _ _ _ | exact spec_OffsetOf.mono _ _ _ _ _ _ | exact LeO.refl _ | exact LeO.none _ | refine LeO.ite ?_ ?_ | refine LeO.bind ?_ (fun _ => ?_)
   | exact impl_OffsetOf.mono _ _ _ _ _ _
   | exact laws_eqTarget.mono _ _ _ _ _ _ _ _ _ _ _
   | exact laws_szTarget.mono _ _ _ _ _ _ _
   | exact laws_toTarget.mono _ _ _ _ _ _
   | exact spec_OffsetOf.mono _ _ _ _ _ _
   | exact LeO.none _
   | refine LeO.ite ?_ ?_
   | refine LeO.bind ?_ (fun _ => ?_)
set_option maxHeartbeats 8000000 in
set_option maxRecDepth 100000 in
theorem laws_FnExactOffsetOf.calls (k : Nat) (A0_0 : Option Addr) (c0_0 : Nat) (l0_0 : List (S103)) (a0_1 : Int) (a0_2 : Int) (a0_3 : Bool) (A0_4 : Option Addr) (c0_4 : Nat) (l0_4 : List (S39)) (r : Bool) (w : World) (hr0_0 : Kd.C k103 w A0_0 l0_0.length l0_0) (hc0_0 : l0_0.length ≤ c0_0) (hr0_4 : Kd.C k39 w A0_4 l0_4.length l0_4) (hc0_4 : l0_4.length ≤ c0_4) (h : laws_FnExactOffsetOf.f k l0_0 a0_1 a0_2 a0_3 l0_4 = some r) :
  Calls Try.prog 14 #[.agg #[.slice A0_0 l0_0.length c0_0, .int .i64 a0_1, .int .i64 a0_2, .bool a0_3, .slice A0_4 l0_4.length c0_4]] w fun e w' => e = .returned (.bool r) ∧ Below w.heap.size w w' := by
 have hu55 := Try.underlying55
 have hu60 := Try.underlying60
 have HR0_0 := am_ hr0_0
 have HC0_0 := am_ hc0_0
 clear hr0_0 hc0_0
 have HR0_4 := am_ hr0_4
 have HC0_4 := am_ hc0_4
 clear hr0_4 hc0_4
 have HB := am_ (Below.refl w.heap.size w)
 have H : ((laws_szTarget.f k l0_0 a0_1 a0_2 a0_3 l0_4 1048576).bind fun t1002 => (if t1002 < 0 then (some true) else ((laws_toTarget.f k l0_0 a0_1 a0_2 a0_3 l0_4).bind fun bt1003 => ((spec_OffsetOf.f k bt1003.1 bt1003.2.1 bt1003.2.2.1 bt1003.2.2.2.1 bt1003.2.2.2.2).bind fun t1012 => ((laws_toTarget.f k l0_0 a0_1 a0_2 a0_3 l0_4).bind fun bt1013 => ((impl_OffsetOf.f k bt1013.1 bt1013.2.1 bt1013.2.2.1 bt1013.2.2.2.1 bt1013.2.2.2.2).bind fun t1023 => (if t1023 = t1012 then ((laws_toTarget.f k l0_0 a0_1 a0_2 a0_3 l0_4).bind fun bt1024 => ((laws_eqTarget.f k bt1013.1 bt1013.2.1 bt1013.2.2.1 bt1013.2.2.2.1 bt1013.2.2.2.2 bt1024.1 bt1024.2.1 bt1024.2.2.1 bt1024.2.2.2.1 bt1024.2.2.2.2).bind fun t1033 => (if t1033 = true then (some true) else (none)))) else (none)))))))) = some r := h
 clear h
 replace H := Option.bind_eq_some_iff.mp H
 obtain ⟨t1002, A20, H⟩ := H
 replace H : (if t1002 < 0 then (some true) else ((laws_toTarget.f k l0_0 a0_1 a0_2 a0_3 l0_4).bind fun bt1003 => ((spec_OffsetOf.f k bt1003.1 bt1003.2.1 bt1003.2.2.1 bt1003.2.2.2.1 bt1003.2.2.2.2).bind fun t1012 => ((laws_toTarget.f k l0_0 a0_1 a0_2 a0_3 l0_4).bind fun bt1013 => ((impl_OffsetOf.f k bt1013.1 bt1013.2.1 bt1013.2.2.1 bt1013.2.2.2.1 bt1013.2.2.2.2).bind fun t1023 => (if t1023 = t1012 then ((laws_toTarget.f k l0_0 a0_1 a0_2 a0_3 l0_4).bind fun bt1024 => ((laws_eqTarget.f k bt1013.1 bt1013.2.1 bt1013.2.2.1 bt1013.2.2.2.1 bt1013.2.2.2.2 bt1024.1 bt1024.2.1 bt1024.2.2.1 bt1024.2.2.2.1 bt1024.2.2.2.2).bind fun t1033 => (if t1033 = true then (some true) else (none)))) else (none))))))) = some r := H
 have A2 := am_ A20
 clear A20
 by_cases c3 : t1002 < 0
 ·rw [if_pos c3] at H
  have c3b0 : decide (t1002 < 0) = true := decide_eq_true c3
  clear c3
  obtain rfl := Option.some.inj H
  go_enter Try.func14, Try.ntmps14
  go_wp2_with (first | ((with_reducible refine gate_dst (N := 1) rfl ?_); refine box_event ?hg (N := 1) ?hd (cs := #[.slice A0_0 l0_0.length c0_0, .int .i64 a0_1, .int .i64 a0_2, .bool a0_3, .slice A0_4 l0_4.length c0_4]) (t := 55) ?hr ?_; (case hd => rfl); (case hg => rfl); (case hr => first | (go_simp; done) | (go_simp; rfl)); intro gb1001 hg w4 hbox hb; have n0_ := am_ (below_step bl_ hb); have n1_ := am_ (hbox); have n2_ := am_ (gs_ hg : w.heap.size ≤ gb1001); have n3_ := n2_; clear HB; have HB := n0_; have BK1001 := n1_; have GW1001 := n2_; have GE1001 := n3_; clear n0_ n1_ n2_ n3_; clear hb hbox hg; have hcz5_0 := bc5_0 BK1001; have hcz5_1 := bc5_1 BK1001; have hcz5_2 := bc5_2 BK1001; have hcz5_3 := bc5_3 BK1001; have hcz5_4 := bc5_4 BK1001; have hfz5_0 := bf_ BK1001 0; have hfz5_1 := bf_ BK1001 1; have hfz5_2 := bf_ BK1001 2; have hfz5_3 := bf_ BK1001 3; have hfz5_4 := bf_ BK1001 4) | ((with_reducible refine gate_callee (f := 41) rfl ?_); refine goesL_ (some 9) rfl rfl Try.func41 (by kernel_rfl) rfl #[.agg #[.slice A0_0 l0_0.length c0_0, .int .i64 a0_1, .int .i64 a0_2, .bool a0_3, .slice A0_4 l0_4.length c0_4], .int .i64 1048576] rfl ag_ ?_; (with_reducible refine (laws_szTarget.calls k _ _ l0_0 a0_1 a0_2 a0_3 _ _ l0_4 1048576 t1002 _ ?side1 ?side2 ?side3 ?side4 A2.out).mono ?_); (case side1 => exact cc_ (Kd.C_below HR0_0.out HB.out)); (case side2 => exact HC0_0.out); (case side3 => exact cc_ (Kd.C_below HR0_4.out HB.out)); (case side4 => exact HC0_4.out); rintro e w6 ⟨rfl, hb⟩; refine ⟨_, rfl, ?_⟩; have n0_ := am_ (blk_below (g := gb1001) (vk_ BK1001) hb); have n1_ := am_ (below_step bg_ hb); clear BK1001; clear HB; have BK1001 := n0_; have HB := n1_; clear n0_ n1_; (try clear hb); (try clear hb2); (try clear hk); (try clear hi)))
  go_ret
  exact ⟨rf_, bg_⟩
 ·rw [if_neg c3] at H
  have c3b0 : decide (t1002 < 0) = false := decide_eq_false c3
  clear c3
  replace H := Option.bind_eq_some_iff.mp H
  obtain ⟨⟨t1003, t1006, t1007, t1008, t1009⟩, A70, H⟩ := H
  replace H : ((spec_OffsetOf.f k t1003 t1006 t1007 t1008 t1009).bind fun t1012 => ((laws_toTarget.f k l0_0 a0_1 a0_2 a0_3 l0_4).bind fun bt1013 => ((impl_OffsetOf.f k bt1013.1 bt1013.2.1 bt1013.2.2.1 bt1013.2.2.2.1 bt1013.2.2.2.2).bind fun t1023 => (if t1023 = t1012 then ((laws_toTarget.f k l0_0 a0_1 a0_2 a0_3 l0_4).bind fun bt1024 => ((laws_eqTarget.f k bt1013.1 bt1013.2.1 bt1013.2.2.1 bt1013.2.2.2.1 bt1013.2.2.2.2 bt1024.1 bt1024.2.1 bt1024.2.2.1 bt1024.2.2.2.1 bt1024.2.2.2.2).bind fun t1033 => (if t1033 = true then (some true) else (none)))) else (none))))) = some r := H
  have A7 := am_ A70
  clear A70
  replace H := Option.bind_eq_some_iff.mp H
  obtain ⟨t1012, A80, H⟩ := H
  replace H : ((laws_toTarget.f k l0_0 a0_1 a0_2 a0_3 l0_4).bind fun bt1013 => ((impl_OffsetOf.f k bt1013.1 bt1013.2.1 bt1013.2.2.1 bt1013.2.2.2.1 bt1013.2.2.2.2).bind fun t1023 => (if t1023 = t1012 then ((laws_toTarget.f k l0_0 a0_1 a0_2 a0_3 l0_4).bind fun bt1024 => ((laws_eqTarget.f k bt1013.1 bt1013.2.1 bt1013.2.2.1 bt1013.2.2.2.1 bt1013.2.2.2.2 bt1024.1 bt1024.2.1 bt1024.2.2.1 bt1024.2.2.2.1 bt1024.2.2.2.2).bind fun t1033 => (if t1033 = true then (some true) else (none)))) else (none)))) = some r := H
  have A8 := am_ A80
  clear A80
  replace H := Option.bind_eq_some_iff.mp H
  obtain ⟨⟨t1013, t1016, t1017, t1018, t1019⟩, A90, H⟩ := H
  replace H : ((impl_OffsetOf.f k t1013 t1016 t1017 t1018 t1019).bind fun t1023 => (if t1023 = t1012 then ((laws_toTarget.f k l0_0 a0_1 a0_2 a0_3 l0_4).bind fun bt1024 => ((laws_eqTarget.f k t1013 t1016 t1017 t1018 t1019 bt1024.1 bt1024.2.1 bt1024.2.2.1 bt1024.2.2.2.1 bt1024.2.2.2.2).bind fun t1033 => (if t1033 = true then (some true) else (none)))) else (none))) = some r := H
  have A9 := am_ A90
  clear A90
  replace H := Option.bind_eq_some_iff.mp H
  obtain ⟨t1023, A100, H⟩ := H
  replace H : (if t1023 = t1012 then ((laws_toTarget.f k l0_0 a0_1 a0_2 a0_3 l0_4).bind fun bt1024 => ((laws_eqTarget.f k t1013 t1016 t1017 t1018 t1019 bt1024.1 bt1024.2.1 bt1024.2.2.1 bt1024.2.2.2.1 bt1024.2.2.2.2).bind fun t1033 => (if t1033 = true then (some true) else (none)))) else (none)) = some r := H
  have A10 := am_ A100
  clear A100
  by_cases c11 : t1023 = t1012
  ·rw [if_pos c11] at H
   have c11b0 : (t1023 == t1012) = true := beq_iff_eq.mpr c11
   have c11b1 : (t1023 != t1012) = false := bne_eq_false_iff_eq.mpr c11
   clear c11
   replace H := Option.bind_eq_some_iff.mp H
   obtain ⟨⟨t1024, t1027, t1028, t1029, t1030⟩, A120, H⟩ := H
   replace H : ((laws_eqTarget.f k t1013 t1016 t1017 t1018 t1019 t1024 t1027 t1028 t1029 t1030).bind fun t1033 => (if t1033 = true then (some true) else (none))) = some r := H
   have A12 := am_ A120
   clear A120
   replace H := Option.bind_eq_some_iff.mp H
   obtain ⟨t1033, A130, H⟩ := H
   replace H : (if t1033 = true then (some true) else (none)) = some r := H
   have A13 := am_ A130
   clear A130
   by_cases c14 : t1033 = true
   ·subst c14
    have H1 : (some true) = some r := by rw [if_pos rfl] at H; exact H
    clear H
    have H := H1
    clear H1
    obtain rfl := Option.some.inj H
    go_enter Try.func14, Try.ntmps14
    try go_wp2_with (first | ((with_reducible refine gate_dst (N := 1) rfl ?_); refine box_event ?hg (N := 1) ?hd (cs := #[.slice A0_0 l0_0.length c0_0, .int .i64 a0_1, .int .i64 a0_2, .bool a0_3, .slice A0_4 l0_4.length c0_4]) (t := 55) ?hr ?_; (case hd => rfl); (case hg => rfl); (case hr => first | (go_simp; done) | (go_simp; rfl)); intro gb1001 hg w15 hbox hb; have n0_ := am_ (below_step bl_ hb); have n1_ := am_ (hbox); have n2_ := am_ (gs_ hg : w.heap.size ≤ gb1001); have n3_ := n2_; clear HB; have HB := n0_; have BK1001 := n1_; have GW1001 := n2_; have GE1001 := n3_; clear n0_ n1_ n2_ n3_; clear hb hbox hg; have hcz16_0 := bc5_0 BK1001; have hcz16_1 := bc5_1 BK1001; have hcz16_2 := bc5_2 BK1001; have hcz16_3 := bc5_3 BK1001; have hcz16_4 := bc5_4 BK1001; have hfz16_0 := bf_ BK1001 0; have hfz16_1 := bf_ BK1001 1; have hfz16_2 := bf_ BK1001 2; have hfz16_3 := bf_ BK1001 3; have hfz16_4 := bf_ BK1001 4) | ((with_reducible refine gate_callee (f := 41) rfl ?_); refine goesL_ (some 9) rfl rfl Try.func41 (by kernel_rfl) rfl #[.agg #[.slice A0_0 l0_0.length c0_0, .int .i64 a0_1, .int .i64 a0_2, .bool a0_3, .slice A0_4 l0_4.length c0_4], .int .i64 1048576] rfl ag_ ?_; (with_reducible refine (laws_szTarget.calls k _ _ l0_0 a0_1 a0_2 a0_3 _ _ l0_4 1048576 t1002 _ ?side1 ?side2 ?side3 ?side4 A2.out).mono ?_); (case side1 => exact cc_ (Kd.C_below HR0_0.out HB.out)); (case side2 => exact HC0_0.out); (case side3 => exact cc_ (Kd.C_below HR0_4.out HB.out)); (case side4 => exact HC0_4.out); rintro e w17 ⟨rfl, hb⟩; refine ⟨_, rfl, ?_⟩; have n0_ := am_ (blk_below (g := gb1001) (vk_ BK1001) hb); have n1_ := am_ (below_step bg_ hb); clear BK1001; clear HB; have BK1001 := n0_; have HB := n1_; clear n0_ n1_; (try clear hb); (try clear hb2); (try clear hk); (try clear hi); have hcz18_0 := bc5_0 BK1001; have hcz18_1 := bc5_1 BK1001; have hcz18_2 := bc5_2 BK1001; have hcz18_3 := bc5_3 BK1001; have hcz18_4 := bc5_4 BK1001; have hfz18_0 := bf_ BK1001 0; have hfz18_1 := bf_ BK1001 1; have hfz18_2 := bf_ BK1001 2; have hfz18_3 := bf_ BK1001 3; have hfz18_4 := bf_ BK1001 4) | ((with_reducible refine gate_callee (f := 43) rfl ?_); refine goesL_ (some 13) rfl rfl Try.func43 (by kernel_rfl) rfl #[.agg #[.slice A0_0 l0_0.length c0_0, .int .i64 a0_1, .int .i64 a0_2, .bool a0_3, .slice A0_4 l0_4.length c0_4]] rfl ag_ ?_; (with_reducible refine (laws_toTarget.calls k _ _ l0_0 a0_1 a0_2 a0_3 _ _ l0_4 t1003 t1006 t1007 t1008 t1009 _ ?side1 ?side2 ?side3 ?side4 A7.out).mono ?_); (case side1 => exact cc_ (Kd.C_below HR0_0.out HB.out)); (case side2 => exact HC0_0.out); (case side3 => exact cc_ (Kd.C_below HR0_4.out HB.out)); (case side4 => exact HC0_4.out); rintro e w19 ⟨v1004, v1010, rfl, ho0, ho1, hb⟩; refine ⟨_, rfl, ?_⟩; have n0_ := am_ (Kd.R_lower ho0 (below_size bg_)); have n1_ := am_ (Kd.S_lower ho1 (below_size bg_)); have n2_ := am_ (blk_below (g := gb1001) (vk_ BK1001) hb); have n3_ := am_ (below_step bg_ hb); clear BK1001; clear HB; have HO1005 := n0_; have HO1011 := n1_; have BK1001 := n2_; have HB := n3_; clear n0_ n1_ n2_ n3_; (try clear hb); (try clear hb2); (try clear hk); (try clear hi); (try clear ho0); (try clear ho1); obtain ⟨Ao20, co20, eo20⟩ := Kd.R_slice HO1005.out; subst eo20; obtain ⟨Ao21, co21, eo21⟩ := Kd.S_slice HO1011.out; subst eo21) | ((with_reducible refine gate_callee (f := 59) rfl ?_); refine goesL_ (some 14) rfl rfl Try.func59 (by kernel_rfl) rfl #[.agg #[.slice Ao20 t1003.length co20, .int .i64 t1006, .int .i64 t1007, .bool t1008, .slice Ao21 t1009.length co21]] rfl ag_ ?_; (with_reducible refine (spec_OffsetOf.calls k _ _ t1003 t1006 t1007 t1008 _ _ t1009 t1012 _ ?side1 ?side2 ?side3 ?side4 A8.out).mono ?_); (case side1 => exact cc_ (Kd.R_reads' HO1005.out).2.2); (case side2 => exact (Kd.R_reads' HO1005.out).2.1); (case side3 => exact cc_ (Kd.S_reads' HO1011.out).2.2); (case side4 => exact (Kd.S_reads' HO1011.out).2.1); rintro e w22 ⟨rfl, hb⟩; refine ⟨_, rfl, ?_⟩; have n0_ := am_ (Kd.R_below (ro_ HO1005) hb); have n1_ := am_ (Kd.S_below (by (with_reducible repeat (first | apply Kd.S_alloc | apply Kd.S_drewN | apply Kd.S_drew)); exact HO1011.out) hb); have n2_ := am_ (blk_below (g := gb1001) (vk_ BK1001) hb); have n3_ := am_ (below_step bg_ hb); clear HO1005; clear HO1011; clear BK1001; clear HB; have HO1005 := n0_; have HO1011 := n1_; have BK1001 := n2_; have HB := n3_; clear n0_ n1_ n2_ n3_; (try clear hb); (try clear hb2); (try clear hk); (try clear hi); have hcz23_0 := bc5_0 BK1001; have hcz23_1 := bc5_1 BK1001; have hcz23_2 := bc5_2 BK1001; have hcz23_3 := bc5_3 BK1001; have hcz23_4 := bc5_4 BK1001; have hfz23_0 := bf_ BK1001 0; have hfz23_1 := bf_ BK1001 1; have hfz23_2 := bf_ BK1001 2; have hfz23_3 := bf_ BK1001 3; have hfz23_4 := bf_ BK1001 4) | ((with_reducible refine gate_callee (f := 43) rfl ?_); refine goesL_ (some 16) rfl rfl Try.func43 (by kernel_rfl) rfl #[.agg #[.slice A0_0 l0_0.length c0_0, .int .i64 a0_1, .int .i64 a0_2, .bool a0_3, .slice A0_4 l0_4.length c0_4]] rfl ag_ ?_; (with_reducible refine (laws_toTarget.calls k _ _ l0_0 a0_1 a0_2 a0_3 _ _ l0_4 t1013 t1016 t1017 t1018 t1019 _ ?side1 ?side2 ?side3 ?side4 A9.out).mono ?_); (case side1 => exact cc_ (Kd.C_below HR0_0.out HB.out)); (case side2 => exact HC0_0.out); (case side3 => exact cc_ (Kd.C_below HR0_4.out HB.out)); (case side4 => exact HC0_4.out); rintro e w24 ⟨v1014, v1020, rfl, ho0, ho1, hb⟩; refine ⟨_, rfl, ?_⟩; have n0_ := am_ (Kd.R_elder' (ro_ HO1005) (Kd.R_base ho0) hb); have n1_ := am_ (Kd.S_elder' (by (with_reducible repeat (first | apply Kd.S_alloc | apply Kd.S_drewN | apply Kd.S_drew)); exact HO1011.out) (Kd.S_base ho1) hb); have n2_ := am_ (Kd.R_lower (Kd.R_new' ho0 (Kd.R_lt (ro_ HO1005))) (below_size bg_)); have n3_ := am_ (Kd.S_lower (Kd.S_new' ho1 (Kd.S_lt (by (with_reducible repeat (first | apply Kd.S_alloc | apply Kd.S_drewN | apply Kd.S_drew)); exact HO1011.out))) (below_size bg_)); have n4_ := am_ (blk_below (g := gb1001) (vk_ BK1001) hb); have n5_ := am_ (below_step bg_ hb); clear HO1005; clear HO1011; clear BK1001; clear HB; have HO1005 := n0_; have HO1011 := n1_; have HO1015 := n2_; have HO1021 := n3_; have BK1001 := n4_; have HB := n5_; clear n0_ n1_ n2_ n3_ n4_ n5_; (try clear hb); (try clear hb2); (try clear hk); (try clear hi); (try clear ho0); (try clear ho1)) | ((with_reducible refine gate_dst (N := 5) rfl ?_); refine box_event ?hg (N := 5) ?hd (cs := #[.slice none 0 0, .int .i64 0, .int .i64 0, .bool false, .slice none 0 0]) (t := 60) ?hr ?_; (case hd => rfl); (case hg => rfl); (case hr => first | (go_simp; done) | (go_simp; rfl)); intro gb1022 hg w25 hbox hb; have n0_ := am_ (Kd.R_below (ro_ HO1005) hb); have n1_ := am_ (Kd.S_below (by (with_reducible repeat (first | apply Kd.S_alloc | apply Kd.S_drewN | apply Kd.S_drew)); exact HO1011.out) hb); have n2_ := am_ (Kd.R_below (ro_ HO1015) hb); have n3_ := am_ (Kd.S_below (by (with_reducible repeat (first | apply Kd.S_alloc | apply Kd.S_drewN | apply Kd.S_drew)); exact HO1021.out) hb); have n4_ := am_ (blk_below (g := gb1001) (vk_ BK1001) hb); have n5_ := am_ (below_step bg_ hb); have n6_ := am_ (hbox); have n7_ := am_ (gg_ hg : w.heap.size ≤ gb1022); have n8_ := n7_; have n9_ := am_ ((by rw [hg]; exact Nat.ne_of_lt (blk_lt (g := gb1001) (o := .cells #[.slice A0_0 l0_0.length c0_0, .int .i64 a0_1, .int .i64 a0_2, .bool a0_3, .slice A0_4 l0_4.length c0_4] 55 (0, 0)) (vk_ BK1001)) : gb1001 ≠ gb1022)); have n10_ := am_ ((by rw [hg]; exact Nat.ne_of_gt (blk_lt (g := gb1001) (o := .cells #[.slice A0_0 l0_0.length c0_0, .int .i64 a0_1, .int .i64 a0_2, .bool a0_3, .slice A0_4 l0_4.length c0_4] 55 (0, 0)) (vk_ BK1001)) : gb1022 ≠ gb1001)); clear HO1005; clear HO1011; clear HO1015; clear HO1021; clear BK1001; clear HB; have HO1005 := n0_; have HO1011 := n1_; have HO1015 := n2_; have HO1021 := n3_; have BK1001 := n4_; have HB := n5_; have BK1022 := n6_; have GW1022 := n7_; have GE1022 := n8_; have NB1001_1022 := n9_; have NB1022_1001 := n10_; clear n0_ n1_ n2_ n3_ n4_ n5_ n6_ n7_ n8_ n9_ n10_; clear hb hbox hg; obtain ⟨Ao26, co26, eo26⟩ := Kd.R_slice HO1015.out; subst eo26; have hnb27 := NB1022_1001.out; have hnc27 := NB1001_1022.out; have hcz28_0 := bc5_0 BK1022; have hcz28_1 := bc5_1 BK1022; have hcz28_2 := bc5_2 BK1022; have hcz28_3 := bc5_3 BK1022; have hcz28_4 := bc5_4 BK1022; have hfz28_0 := bf_ BK1022 0; have hfz28_1 := bf_ BK1022 1; have hfz28_2 := bf_ BK1022 2; have hfz28_3 := bf_ BK1022 3; have hfz28_4 := bf_ BK1022 4; obtain ⟨Ao29, co29, eo29⟩ := Kd.S_slice HO1021.out; subst eo29) | ((with_reducible refine gate_callee (f := 60) rfl ?_); refine goesL_ (some 18) rfl rfl Try.func60 (by kernel_rfl) rfl #[.agg #[.slice Ao26 t1013.length co26, .int .i64 t1016, .int .i64 t1017, .bool t1018, .slice Ao29 t1019.length co29]] rfl ag_ ?_; (with_reducible refine (impl_OffsetOf.calls k _ _ t1013 t1016 t1017 t1018 _ _ t1019 t1023 _ ?side1 ?side2 ?side3 ?side4 A10.out).mono ?_); (case side1 => refine (Kd.R_reads' (e := 105) (base := w.heap.size) (ok := fun k_ => (True ∧ some k_ ≠ (.slice Ao20 t1003.length co20 : Value).ownBlock)) (n := t1013.length) (c := co26) ?_).2.2; exact (by (with_reducible repeat (first | apply Kd.R_alloc | apply Kd.R_drewN | apply Kd.R_drew)); exact (Kd.R_mono (Kd.R_far (p := ⟨gb1022, 4, none⟩) (Kd.R_far (p := ⟨gb1022, 3, none⟩) (Kd.R_far (p := ⟨gb1022, 2, none⟩) (Kd.R_far (p := ⟨gb1022, 1, none⟩) (Kd.R_far (p := ⟨gb1022, 0, none⟩) (Kd.R_types HO1015.out BK1022.out (by decide)) (fun _ hk => hk.2) (.slice Ao26 t1013.length co26)) (fun _ hk => hk.2) (.int .i64 t1016)) (fun _ hk => hk.2) (.int .i64 t1017)) (fun _ hk => hk.2) (.bool t1018)) (fun _ hk => hk.2) (.slice Ao29 t1019.length co29)) (fun _ h_ => h_.1)))); (case side2 => exact (Kd.R_reads' HO1015.out).2.1); (case side3 => refine (Kd.S_reads' (e := 42) (base := w.heap.size) (ok := fun k_ => (True ∧ some k_ ≠ (.slice Ao21 t1009.length co21 : Value).ownBlock)) (n := t1019.length) (c := co29) ?_).2.2; exact (by (with_reducible repeat (first | apply Kd.S_alloc | apply Kd.S_drewN | apply Kd.S_drew)); exact (Kd.S_mono (Kd.S_far (p := ⟨gb1022, 4, none⟩) (Kd.S_far (p := ⟨gb1022, 3, none⟩) (Kd.S_far (p := ⟨gb1022, 2, none⟩) (Kd.S_far (p := ⟨gb1022, 1, none⟩) (Kd.S_far (p := ⟨gb1022, 0, none⟩) (Kd.S_types HO1021.out BK1022.out (by decide)) (fun _ hk => hk.2) (.slice Ao26 t1013.length co26)) (fun _ hk => hk.2) (.int .i64 t1016)) (fun _ hk => hk.2) (.int .i64 t1017)) (fun _ hk => hk.2) (.bool t1018)) (fun _ hk => hk.2) (.slice Ao29 t1019.length co29)) (fun _ h_ => h_.1)))); (case side4 => exact (Kd.S_reads' HO1021.out).2.1); rintro e w30 ⟨rfl, hb⟩; refine ⟨_, rfl, ?_⟩; have n0_ := am_ (Kd.R_below (by (with_reducible repeat (first | apply Kd.R_alloc | apply Kd.R_drewN | apply Kd.R_drew)); exact (Kd.R_mono (Kd.R_far (p := ⟨gb1022, 4, none⟩) (Kd.R_far (p := ⟨gb1022, 3, none⟩) (Kd.R_far (p := ⟨gb1022, 2, none⟩) (Kd.R_far (p := ⟨gb1022, 1, none⟩) (Kd.R_far (p := ⟨gb1022, 0, none⟩) (Kd.R_types HO1005.out BK1022.out (by decide)) (fun _ hk => hk.2) (.slice Ao26 t1013.length co26)) (fun _ hk => hk.2) (.int .i64 t1016)) (fun _ hk => hk.2) (.int .i64 t1017)) (fun _ hk => hk.2) (.bool t1018)) (fun _ hk => hk.2) (.slice Ao29 t1019.length co29)) (fun _ h_ => h_.1))) hb); have n1_ := am_ (Kd.S_below (by (with_reducible repeat (first | apply Kd.S_alloc | apply Kd.S_drewN | apply Kd.S_drew)); exact (Kd.S_mono (Kd.S_far (p := ⟨gb1022, 4, none⟩) (Kd.S_far (p := ⟨gb1022, 3, none⟩) (Kd.S_far (p := ⟨gb1022, 2, none⟩) (Kd.S_far (p := ⟨gb1022, 1, none⟩) (Kd.S_far (p := ⟨gb1022, 0, none⟩) (Kd.S_types HO1011.out BK1022.out (by decide)) (fun _ hk => hk.2) (.slice Ao26 t1013.length co26)) (fun _ hk => hk.2) (.int .i64 t1016)) (fun _ hk => hk.2) (.int .i64 t1017)) (fun _ hk => hk.2) (.bool t1018)) (fun _ hk => hk.2) (.slice Ao29 t1019.length co29)) (fun _ h_ => h_.1))) hb); have n2_ := am_ (Kd.R_below (by (with_reducible repeat (first | apply Kd.R_alloc | apply Kd.R_drewN | apply Kd.R_drew)); exact (Kd.R_mono (Kd.R_far (p := ⟨gb1022, 4, none⟩) (Kd.R_far (p := ⟨gb1022, 3, none⟩) (Kd.R_far (p := ⟨gb1022, 2, none⟩) (Kd.R_far (p := ⟨gb1022, 1, none⟩) (Kd.R_far (p := ⟨gb1022, 0, none⟩) (Kd.R_types HO1015.out BK1022.out (by decide)) (fun _ hk => hk.2) (.slice Ao26 t1013.length co26)) (fun _ hk => hk.2) (.int .i64 t1016)) (fun _ hk => hk.2) (.int .i64 t1017)) (fun _ hk => hk.2) (.bool t1018)) (fun _ hk => hk.2) (.slice Ao29 t1019.length co29)) (fun _ h_ => h_.1))) hb); have n3_ := am_ (Kd.S_below (by (with_reducible repeat (first | apply Kd.S_alloc | apply Kd.S_drewN | apply Kd.S_drew)); exact (Kd.S_mono (Kd.S_far (p := ⟨gb1022, 4, none⟩) (Kd.S_far (p := ⟨gb1022, 3, none⟩) (Kd.S_far (p := ⟨gb1022, 2, none⟩) (Kd.S_far (p := ⟨gb1022, 1, none⟩) (Kd.S_far (p := ⟨gb1022, 0, none⟩) (Kd.S_types HO1021.out BK1022.out (by decide)) (fun _ hk => hk.2) (.slice Ao26 t1013.length co26)) (fun _ hk => hk.2) (.int .i64 t1016)) (fun _ hk => hk.2) (.int .i64 t1017)) (fun _ hk => hk.2) (.bool t1018)) (fun _ hk => hk.2) (.slice Ao29 t1019.length co29)) (fun _ h_ => h_.1))) hb); have n4_ := am_ (blk_below (g := gb1001) (o := .cells #[.slice A0_0 l0_0.length c0_0, .int .i64 a0_1, .int .i64 a0_2, .bool a0_3, .slice A0_4 l0_4.length c0_4] 55 (0, 0)) (by (with_reducible repeat (first | refine blk_drewN ?_ _ | refine blk_drew ?_ | refine blk_alloc ?_ _)); refine blk_far ?_ NB1001_1022.out _; (with_reducible repeat (first | refine blk_drewN ?_ _ | refine blk_drew ?_ | refine blk_alloc ?_ _)); refine blk_far ?_ NB1001_1022.out _; (with_reducible repeat (first | refine blk_drewN ?_ _ | refine blk_drew ?_ | refine blk_alloc ?_ _)); refine blk_far ?_ NB1001_1022.out _; (with_reducible repeat (first | refine blk_drewN ?_ _ | refine blk_drew ?_ | refine blk_alloc ?_ _)); refine blk_far ?_ NB1001_1022.out _; (with_reducible repeat (first | refine blk_drewN ?_ _ | refine blk_drew ?_ | refine blk_alloc ?_ _)); refine blk_far ?_ NB1001_1022.out _; (with_reducible repeat (first | refine blk_drewN ?_ _ | refine blk_drew ?_ | refine blk_alloc ?_ _)); exact BK1001.out) hb); have n5_ := am_ (blk_below (g := gb1022) (o := .cells #[.slice Ao26 t1013.length co26, .int .i64 t1016, .int .i64 t1017, .bool t1018, .slice Ao29 t1019.length co29] 60 (0, 0)) (by (with_reducible repeat (first | refine blk_drewN ?_ _ | refine blk_drew ?_ | refine blk_alloc ?_ _)); refine blk_put (cs := #[.slice Ao26 t1013.length co26, .int .i64 t1016, .int .i64 t1017, .bool t1018, .slice none 0 0]) ?_ 4 _ rfl; (with_reducible repeat (first | refine blk_drewN ?_ _ | refine blk_drew ?_ | refine blk_alloc ?_ _)); refine blk_put (cs := #[.slice Ao26 t1013.length co26, .int .i64 t1016, .int .i64 t1017, .bool false, .slice none 0 0]) ?_ 3 _ rfl; (with_reducible repeat (first | refine blk_drewN ?_ _ | refine blk_drew ?_ | refine blk_alloc ?_ _)); refine blk_put (cs := #[.slice Ao26 t1013.length co26, .int .i64 t1016, .int .i64 0, .bool false, .slice none 0 0]) ?_ 2 _ rfl; (with_reducible repeat (first | refine blk_drewN ?_ _ | refine blk_drew ?_ | refine blk_alloc ?_ _)); refine blk_put (cs := #[.slice Ao26 t1013.length co26, .int .i64 0, .int .i64 0, .bool false, .slice none 0 0]) ?_ 1 _ rfl; (with_reducible repeat (first | refine blk_drewN ?_ _ | refine blk_drew ?_ | refine blk_alloc ?_ _)); refine blk_put (cs := #[.slice none 0 0, .int .i64 0, .int .i64 0, .bool false, .slice none 0 0]) ?_ 0 _ rfl; (with_reducible repeat (first | refine blk_drewN ?_ _ | refine blk_drew ?_ | refine blk_alloc ?_ _)); exact BK1022.out) hb); have n6_ := am_ (below_step bg_ hb); clear HO1005; clear HO1011; clear HO1015; clear HO1021; clear BK1001; clear BK1022; clear HB; have HO1005 := n0_; have HO1011 := n1_; have HO1015 := n2_; have HO1021 := n3_; have BK1001 := n4_; have BK1022 := n5_; have HB := n6_; clear n0_ n1_ n2_ n3_ n4_ n5_ n6_; (try clear hb); (try clear hb2); (try clear hk); (try clear hi)))
    have n0_ := am_ (Kd.R_drew HO1005.out)
    have n1_ := am_ (Kd.S_drew HO1011.out)
    have n2_ := am_ (Kd.R_drew HO1015.out)
    have n3_ := am_ (Kd.S_drew HO1021.out)
    have n4_ := am_ (blk_drew BK1001.out)
    have n5_ := am_ (blk_drew BK1022.out)
    have n6_ := am_ (below_drew1 HB.out)
    clear HO1005
    clear HO1011
    clear HO1015
    clear HO1021
    clear BK1001
    clear BK1022
    clear HB
    have HO1005 := n0_
    have HO1011 := n1_
    have HO1015 := n2_
    have HO1021 := n3_
    have BK1001 := n4_
    have BK1022 := n5_
    have HB := n6_
    clear n0_ n1_ n2_ n3_ n4_ n5_ n6_
    refine start_ (n := 5) (S := fun w' => w'.cell? ⟨gb1022, 0, none⟩ = some (.slice Ao26 t1013.length co26) ∧ w'.cell? ⟨gb1022, 1, none⟩ = some (.int .i64 t1016) ∧ w'.cell? ⟨gb1022, 2, none⟩ = some (.int .i64 t1017) ∧ w'.cell? ⟨gb1022, 3, none⟩ = some (.bool t1018) ∧ w'.cell? ⟨gb1022, 4, none⟩ = some (.slice Ao29 t1019.length co29) ∧ w'.cell? ⟨gb1001, 0, none⟩ = some (.slice A0_0 l0_0.length c0_0) ∧ w'.cell? ⟨gb1001, 1, none⟩ = some (.int .i64 a0_1) ∧ w'.cell? ⟨gb1001, 2, none⟩ = some (.int .i64 a0_2) ∧ w'.cell? ⟨gb1001, 3, none⟩ = some (.bool a0_3) ∧ w'.cell? ⟨gb1001, 4, none⟩ = some (.slice A0_4 l0_4.length c0_4)) (ds := []) (bz 5 0) (by kernel_rfl) rfl rfl ⟨(blk_cell BK1022.out 0).trans rfl, (blk_cell BK1022.out 1).trans rfl, (blk_cell BK1022.out 2).trans rfl, (blk_cell BK1022.out 3).trans rfl, (blk_cell BK1022.out 4).trans rfl, (blk_cell BK1001.out 0).trans rfl, (blk_cell BK1001.out 1).trans rfl, (blk_cell BK1001.out 2).trans rfl, (blk_cell BK1001.out 3).trans rfl, (blk_cell BK1001.out 4).trans rfl⟩ (fun hHeld => ?_)
    generalize w30.drew = w31 at HO1005 HO1011 HO1015 HO1021 BK1001 BK1022 HB hHeld ⊢
    refine take_ (i := 0) (N := some 22) (v := ?_) (a' := ?_) (bz 5 1) rfl rfl (by kernel_rfl) (fun _ _ _ h => h) (Or.inl ⟨by rfl, ?_⟩) hHeld ?_ ?_
    rotate_left
    ·rintro w' ⟨s0, s1, s2, s3, s4, s5, s6, s7, s8, s9⟩
     go_simp
     with_reducible rfl
    rotate_left
    ·simp only [Act.put, List.setIfInBounds_toArray, List.set_cons_zero, List.set_cons_succ, i64_w, i32_w]
     rfl
    refine take_ (i := 1) (N := some 23) (v := ?_) (a' := ?_) (bz 5 3) rfl rfl (by kernel_rfl) (fun _ _ _ h => h) (Or.inl ⟨by rfl, ?_⟩) hHeld ?_ ?_
    rotate_left
    ·rintro w' ⟨s0, s1, s2, s3, s4, s5, s6, s7, s8, s9⟩
     go_simp
     with_reducible rfl
    rotate_left
    ·simp only [Act.put, List.setIfInBounds_toArray, List.set_cons_zero, List.set_cons_succ, i64_w, i32_w]
     rfl
    refine one_ (i := 2) (N := some 24) (bz 5 7) rfl rfl (by kernel_rfl) (by decide) (fun K hK => ?_)
    refine goes_ Try.func43 (by kernel_rfl) rfl #[.agg #[.slice A0_0 l0_0.length c0_0, .int .i64 a0_1, .int .i64 a0_2, .bool a0_3, .slice A0_4 l0_4.length c0_4]] (by rfl) rfl rfl ag_ ?_
    with_reducible refine (laws_toTarget.calls k _ _ l0_0 a0_1 a0_2 a0_3 _ _ l0_4 t1024 t1027 t1028 t1029 t1030 _ ?side1 ?side2 ?side3 ?side4 A12.out).mono ?_
    (case side1 => exact cc_ (Kd.C_below HR0_0.out HB.out))
    (case side2 => exact HC0_0.out)
    (case side3 => exact cc_ (Kd.C_below HR0_4.out HB.out))
    (case side4 => exact HC0_4.out)
    rintro e w32 ⟨v1025, v1031, rfl, ho0, ho1, hb⟩
    refine ⟨_, rfl, ?_⟩
    have n0_ := am_ (Kd.R_elder' (ro_ HO1005) (Kd.R_base ho0) hb)
    have n1_ := am_ (Kd.S_elder' (by (with_reducible repeat (first | apply Kd.S_alloc | apply Kd.S_drewN | apply Kd.S_drew)); exact HO1011.out) (Kd.S_base ho1) hb)
    have n2_ := am_ (Kd.R_elder' (ro_ HO1015) (Kd.R_base ho0) hb)
    have n3_ := am_ (Kd.S_elder' (by (with_reducible repeat (first | apply Kd.S_alloc | apply Kd.S_drewN | apply Kd.S_drew)); exact HO1021.out) (Kd.S_base ho1) hb)
    have n4_ := am_ (Kd.R_lower (Kd.R_new' (Kd.R_new' ho0 (Kd.R_lt (ro_ HO1005))) (Kd.R_lt (ro_ HO1015))) (below_size bg_))
    have n5_ := am_ (Kd.S_lower (Kd.S_new' (Kd.S_new' ho1 (Kd.S_lt (by (with_reducible repeat (first | apply Kd.S_alloc | apply Kd.S_drewN | apply Kd.S_drew)); exact HO1011.out))) (Kd.S_lt (by (with_reducible repeat (first | apply Kd.S_alloc | apply Kd.S_drewN | apply Kd.S_drew)); exact HO1021.out))) (below_size bg_))
    have n6_ := am_ (blk_below (g := gb1001) (vk_ BK1001) hb)
    have n7_ := am_ (blk_below (g := gb1022) (vk_ BK1022) hb)
    have n8_ := am_ (below_step bg_ hb)
    clear HO1005
    clear HO1011
    clear HO1015
    clear HO1021
    clear BK1001
    clear BK1022
    clear HB
    have HO1005 := n0_
    have HO1011 := n1_
    have HO1015 := n2_
    have HO1021 := n3_
    have HO1026 := n4_
    have HO1032 := n5_
    have BK1001 := n6_
    have BK1022 := n7_
    have HB := n8_
    clear n0_ n1_ n2_ n3_ n4_ n5_ n6_ n7_ n8_
    (try clear hb)
    (try clear hb2)
    (try clear hk)
    (try clear hi)
    (try clear ho0)
    (try clear ho1)
    obtain ⟨Ao33, co33, eo33⟩ := Kd.R_slice HO1026.out
    (first | subst eo33 | (injection eo33 with f1_ f2_ f3_; have f4_ := f1_.symm; have f5_ := f3_.symm; clear f1_ f2_ f3_; subst f4_; subst f5_))
    obtain ⟨Ao34, co34, eo34⟩ := Kd.S_slice HO1032.out
    (first | subst eo34 | (injection eo34 with f1_ f2_ f3_; have f4_ := f1_.symm; have f5_ := f3_.symm; clear f1_ f2_ f3_; subst f4_; subst f5_))
    refine hK.out _ _ ⟨(blk_cell BK1022.out 0).trans rfl, (blk_cell BK1022.out 1).trans rfl, (blk_cell BK1022.out 2).trans rfl, (blk_cell BK1022.out 3).trans rfl, (blk_cell BK1022.out 4).trans rfl, (blk_cell BK1001.out 0).trans rfl, (blk_cell BK1001.out 1).trans rfl, (blk_cell BK1001.out 2).trans rfl, (blk_cell BK1001.out 3).trans rfl, (blk_cell BK1001.out 4).trans rfl⟩ (fun hHeld => ?_)
    clear hK K
    refine norm_ (a' := ?_) ?_ ?_
    rotate_left
    ·show Act.put _ (some 24) _ = _
     simp only [Act.put, List.setIfInBounds_toArray, List.set_cons_zero, List.set_cons_succ, i64_w, i32_w]
     rfl
    refine one_ (i := 3) (N := some 25) (bz 5 15) rfl rfl (by kernel_rfl) (by decide) (fun K hK => ?_)
    refine goes_ Try.func45 (by kernel_rfl) rfl #[.agg #[.slice Ao26 t1013.length co26, .int .i64 t1016, .int .i64 t1017, .bool t1018, .slice Ao29 t1019.length co29], .agg #[.slice Ao33 t1024.length co33, .int .i64 t1027, .int .i64 t1028, .bool t1029, .slice Ao34 t1030.length co34]] (by rfl) rfl rfl ag_ ?_
    with_reducible refine (laws_eqTarget.calls k _ _ t1013 t1016 t1017 t1018 _ _ t1019 _ _ t1024 t1027 t1028 t1029 _ _ t1030 true _ ?side1 ?side2 ?side3 ?side4 ?side5 ?side6 ?side7 ?side8 A13.out).mono ?_
    (case side1 => exact cc_ (Kd.R_reads' HO1015.out).2.2)
    (case side2 => exact (Kd.R_reads' HO1015.out).2.1)
    (case side3 => exact cc_ (Kd.S_reads' HO1021.out).2.2)
    (case side4 => exact (Kd.S_reads' HO1021.out).2.1)
    (case side5 => exact cc_ (Kd.R_reads' HO1026.out).2.2)
    (case side6 => exact (Kd.R_reads' HO1026.out).2.1)
    (case side7 => exact cc_ (Kd.S_reads' HO1032.out).2.2)
    (case side8 => exact (Kd.S_reads' HO1032.out).2.1)
    rintro e w35 ⟨rfl, hb⟩
    refine ⟨_, rfl, ?_⟩
    have n0_ := am_ (Kd.R_below (ro_ HO1005) hb)
    have n1_ := am_ (Kd.S_below (by (with_reducible repeat (first | apply Kd.S_alloc | apply Kd.S_drewN | apply Kd.S_drew)); exact HO1011.out) hb)
    have n2_ := am_ (Kd.R_below (ro_ HO1015) hb)
    have n3_ := am_ (Kd.S_below (by (with_reducible repeat (first | apply Kd.S_alloc | apply Kd.S_drewN | apply Kd.S_drew)); exact HO1021.out) hb)
    have n4_ := am_ (Kd.R_below (ro_ HO1026) hb)
    have n5_ := am_ (Kd.S_below (by (with_reducible repeat (first | apply Kd.S_alloc | apply Kd.S_drewN | apply Kd.S_drew)); exact HO1032.out) hb)
    have n6_ := am_ (blk_below (g := gb1001) (vk_ BK1001) hb)
    have n7_ := am_ (blk_below (g := gb1022) (vk_ BK1022) hb)
    have n8_ := am_ (below_step bg_ hb)
    clear HO1005
    clear HO1011
    clear HO1015
    clear HO1021
    clear HO1026
    clear HO1032
    clear BK1001
    clear BK1022
    clear HB
    have HO1005 := n0_
    have HO1011 := n1_
    have HO1015 := n2_
    have HO1021 := n3_
    have HO1026 := n4_
    have HO1032 := n5_
    have BK1001 := n6_
    have BK1022 := n7_
    have HB := n8_
    clear n0_ n1_ n2_ n3_ n4_ n5_ n6_ n7_ n8_
    (try clear hb)
    (try clear hb2)
    (try clear hk)
    (try clear hi)
    refine hK.out _ _ ⟨(blk_cell BK1022.out 0).trans rfl, (blk_cell BK1022.out 1).trans rfl, (blk_cell BK1022.out 2).trans rfl, (blk_cell BK1022.out 3).trans rfl, (blk_cell BK1022.out 4).trans rfl, (blk_cell BK1001.out 0).trans rfl, (blk_cell BK1001.out 1).trans rfl, (blk_cell BK1001.out 2).trans rfl, (blk_cell BK1001.out 3).trans rfl, (blk_cell BK1001.out 4).trans rfl⟩ (fun hHeld => ?_)
    clear hK K
    refine norm_ (a' := ?_) ?_ ?_
    rotate_left
    ·show Act.put _ (some 25) _ = _
     simp only [Act.put, List.setIfInBounds_toArray, List.set_cons_zero, List.set_cons_succ, i64_w, i32_w]
     rfl
    refine pure_ (i := 4) (N := some 26) (v := ?_) (a' := ?_) (bz 5 31) rfl rfl (by kernel_rfl) (fun _ _ _ h => h) (Or.inl ⟨by rfl, ?_⟩) ?_ ?_
    rotate_left
    ·intro w'
     go_simp
     with_reducible rfl
    rotate_left
    ·simp only [Act.put, List.setIfInBounds_toArray, List.set_cons_zero, List.set_cons_succ, i64_w, i32_w]
     rfl
    refine done_ (by kernel_rfl) ?_
    try go_wp2
    go_ret
    exact ⟨rf_, bg_⟩
   ·replace c14 := Bool.eq_false_iff.mpr c14
    subst c14
    have H1 : (none) = some r := by rw [if_neg (show ¬ (false = true) by decide)] at H; exact H
    clear H
    have H := H1
    clear H1
    exact absurd H (by simp)
  ·rw [if_neg c11] at H
   exact absurd H (by simp)

end Go.Proofs.Ytnnlgbpfdnaalaa.Pr
