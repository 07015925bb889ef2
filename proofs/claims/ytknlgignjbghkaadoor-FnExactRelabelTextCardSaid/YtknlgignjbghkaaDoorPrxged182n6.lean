/- Functions of the given program as plain Lean functions, and that the machine's calls come to them; written by a program of this session; no condition but those that each theorem states. -/
import Derived.Test.YtknlgignjbghkaaDoorPrx0
import Derived.Test.YtknlgignjbghkaaDoorPrxged182n1
import Derived.Test.YtknlgignjbghkaaDoorPrxged182n3
import Derived.Test.YtknlgignjbghkaaDoorPrxged182n5
namespace Go.Proofs.YtknlgignjbghkaaDoor.Pr
open Go.RowKit Go.Proofs.YtknlgignjbghkaaDoorW.PrintWords Go.Proofs.YtknlgignjbghkaaDoorW.PrintLast Go.Proofs.YtknlgignjbghkaaDoorW.PrintMore
attribute [local go_sem] max2_int min2_int max_two min_two max_three min_three max_four min_four   -- for this text's walks alone
set_option linter.unusedVariables false
set_option linter.unusedSimpArgs false

/-! ### laws_FnExactRelabelText: function 5 -/
def laws_FnExactRelabelText.f (k : Nat) (a0_0 : Int) (l0_1 : List ByteArray) (a0_2 : ByteArray) (a0_3 : ByteArray) (a0_4 : ByteArray) (a0_5 : ByteArray) (a0_6 : Int) : Option (Bool) := (laws_szRelabel.f k a0_0 l0_1 a0_2 a0_3 a0_4 a0_5 a0_6 1048576).bind fun t1002 => (if t1002 < 0 then (some true) else ((laws_toRelabel.f k a0_0 l0_1 a0_2 a0_3 a0_4 a0_5 a0_6).bind fun bt1003 => ((spec_RelabelText.f k bt1003.1 bt1003.2.1 bt1003.2.2.1 bt1003.2.2.2.1 bt1003.2.2.2.2.1 bt1003.2.2.2.2.2.1 bt1003.2.2.2.2.2.2).bind fun t1012 => ((laws_toRelabel.f k a0_0 l0_1 a0_2 a0_3 a0_4 a0_5 a0_6).bind fun bt1013 => ((impl_RelabelText.f k bt1013.1 bt1013.2.1 bt1013.2.2.1 bt1013.2.2.2.1 bt1013.2.2.2.2.1 bt1013.2.2.2.2.2.1 bt1013.2.2.2.2.2.2).bind fun t1023 => (if t1023.toList = t1012.toList then ((laws_toRelabel.f k a0_0 l0_1 a0_2 a0_3 a0_4 a0_5 a0_6).bind fun bt1024 => ((laws_eqRelabel.f k bt1013.1 bt1013.2.1 bt1013.2.2.1 bt1013.2.2.2.1 bt1013.2.2.2.2.1 bt1013.2.2.2.2.2.1 bt1013.2.2.2.2.2.2 bt1024.1 bt1024.2.1 bt1024.2.2.1 bt1024.2.2.2.1 bt1024.2.2.2.2.1 bt1024.2.2.2.2.2.1 bt1024.2.2.2.2.2.2).bind fun t1033 => (if t1033 = true then (some true) else (none)))) else (none)))))))
theorem laws_FnExactRelabelText.mono : ∀ a0 a1 a2 a3 a4 a5 a6 k, LeO (laws_FnExactRelabelText.f k a0 a1 a2 a3 a4 a5 a6) (laws_FnExactRelabelText.f (k + 1) a0 a1 a2 a3 a4 a5 a6) := by
 intro a0 a1 a2 a3 a4 a5 a6 k
 unfold laws_FnExactRelabelText.f
 repeat' first
   | with_reducible first | exact impl_RelabelText.mono _ _ _ _ _ _ _ _ | exact laws_eqRelabel.mono _ _ _ _ _ _ _ _ _ _ _ _ _ _ _ | exact laws_szRelabel.mono _ _ _ _ _ _ _ _ _ | exact laws_toRelabel.mono _ _ _ _ _ _ _ _ | exact spec_RelabelText.mono _ _ _ _ _ _ _ _ | exact LeO.refl _ | exact LeO.none _ | refine LeO.ite ?_ ?_ | refine LeO.bind ?_ (fun _ => ?_)
   | exact impl_RelabelText.mono _ _ _ _ _ _ _ _
   | exact laws_eqRelabel.mono _ _ _ _ _ _ _ _ _ _ _ _ _ _ _
   | exact laws_szRelabel.mono _ _ _ _ _ _ _ _ _
   | exact laws_toRelabel.mono _ _ _ _ _ _ _ _
   | exact spec_RelabelText.mono _ _ _ _ _ _ _ _
   | exact LeO.none _
   | refine LeO.ite ?_ ?_
   | refine LeO.bind ?_ (fun _ => ?_)
set_option maxHeartbeats 8000000 in
set_option maxRecDepth 100000 in
theorem laws_FnExactRelabelText.calls (k : Nat) (a0_0 : Int) (A0_1 : Option Addr) (c0_1 : Nat) (l0_1 : List ByteArray) (a0_2 : ByteArray) (a0_3 : ByteArray) (a0_4 : ByteArray) (a0_5 : ByteArray) (a0_6 : Int) (r : Bool) (w : World) (hr0_1 : Kd.C Kd.string w A0_1 l0_1.length l0_1) (hc0_1 : l0_1.length ≤ c0_1) (h : laws_FnExactRelabelText.f k a0_0 l0_1 a0_2 a0_3 a0_4 a0_5 a0_6 = some r) (hT0 : Tg0 w := by exact Tg0.below hT0 bg_) (hT3 : Tg3 w := by exact Tg3.below hT3 bg_) :
  Calls Tryd.prog 5 #[.agg #[.int .i64 a0_0, .slice A0_1 l0_1.length c0_1, .string a0_2, .string a0_3, .string a0_4, .string a0_5, .int .i64 a0_6]] w fun e w' => e = .returned (.bool r) ∧ Below w.heap.size w w' := by
 have hu35 := Tryd.underlying35
 have hu38 := Tryd.underlying38
 have HR0_1 := am_ hr0_1
 have HC0_1 := am_ hc0_1
 clear hr0_1 hc0_1
 have HB := am_ (Below.refl w.heap.size w)
 have H : ((laws_szRelabel.f k a0_0 l0_1 a0_2 a0_3 a0_4 a0_5 a0_6 1048576).bind fun t1002 => (if t1002 < 0 then (some true) else ((laws_toRelabel.f k a0_0 l0_1 a0_2 a0_3 a0_4 a0_5 a0_6).bind fun bt1003 => ((spec_RelabelText.f k bt1003.1 bt1003.2.1 bt1003.2.2.1 bt1003.2.2.2.1 bt1003.2.2.2.2.1 bt1003.2.2.2.2.2.1 bt1003.2.2.2.2.2.2).bind fun t1012 => ((laws_toRelabel.f k a0_0 l0_1 a0_2 a0_3 a0_4 a0_5 a0_6).bind fun bt1013 => ((impl_RelabelText.f k bt1013.1 bt1013.2.1 bt1013.2.2.1 bt1013.2.2.2.1 bt1013.2.2.2.2.1 bt1013.2.2.2.2.2.1 bt1013.2.2.2.2.2.2).bind fun t1023 => (if t1023.toList = t1012.toList then ((laws_toRelabel.f k a0_0 l0_1 a0_2 a0_3 a0_4 a0_5 a0_6).bind fun bt1024 => ((laws_eqRelabel.f k bt1013.1 bt1013.2.1 bt1013.2.2.1 bt1013.2.2.2.1 bt1013.2.2.2.2.1 bt1013.2.2.2.2.2.1 bt1013.2.2.2.2.2.2 bt1024.1 bt1024.2.1 bt1024.2.2.1 bt1024.2.2.2.1 bt1024.2.2.2.2.1 bt1024.2.2.2.2.2.1 bt1024.2.2.2.2.2.2).bind fun t1033 => (if t1033 = true then (some true) else (none)))) else (none)))))))) = some r := h
 clear h
 replace H := Option.bind_eq_some_iff.mp H
 obtain ⟨t1002, A20, H⟩ := H
 replace H : (if t1002 < 0 then (some true) else ((laws_toRelabel.f k a0_0 l0_1 a0_2 a0_3 a0_4 a0_5 a0_6).bind fun bt1003 => ((spec_RelabelText.f k bt1003.1 bt1003.2.1 bt1003.2.2.1 bt1003.2.2.2.1 bt1003.2.2.2.2.1 bt1003.2.2.2.2.2.1 bt1003.2.2.2.2.2.2).bind fun t1012 => ((laws_toRelabel.f k a0_0 l0_1 a0_2 a0_3 a0_4 a0_5 a0_6).bind fun bt1013 => ((impl_RelabelText.f k bt1013.1 bt1013.2.1 bt1013.2.2.1 bt1013.2.2.2.1 bt1013.2.2.2.2.1 bt1013.2.2.2.2.2.1 bt1013.2.2.2.2.2.2).bind fun t1023 => (if t1023.toList = t1012.toList then ((laws_toRelabel.f k a0_0 l0_1 a0_2 a0_3 a0_4 a0_5 a0_6).bind fun bt1024 => ((laws_eqRelabel.f k bt1013.1 bt1013.2.1 bt1013.2.2.1 bt1013.2.2.2.1 bt1013.2.2.2.2.1 bt1013.2.2.2.2.2.1 bt1013.2.2.2.2.2.2 bt1024.1 bt1024.2.1 bt1024.2.2.1 bt1024.2.2.2.1 bt1024.2.2.2.2.1 bt1024.2.2.2.2.2.1 bt1024.2.2.2.2.2.2).bind fun t1033 => (if t1033 = true then (some true) else (none)))) else (none))))))) = some r := H
 have A2 := am_ A20
 clear A20
 by_cases c3 : t1002 < 0
 ·rw [if_pos c3] at H
  have c3b0 : decide (t1002 < 0) = true := decide_eq_true c3
  clear c3
  obtain rfl := Option.some.inj H
  go_enter Tryd.func5, Tryd.ntmps5
  go_wp2_with (first | ((with_reducible refine gate_dst (N := 1) rfl ?_); refine bx_ 1 #[.int .i64 a0_0, .slice A0_1 l0_1.length c0_1, .string a0_2, .string a0_3, .string a0_4, .string a0_5, .int .i64 a0_6] 35 ?_; intro gb1001 hg w4 hbox hb; have BK1001 := am_ (hbox); have GW1001 := am_ (gs_ hg : w.heap.size ≤ gb1001); replace HB := am_ (below_step bl_ hb); have GE1001 := GW1001; clear hb hbox hg; have hcz5_0 : w4.cell? ⟨gb1001, 0, none⟩ = some (.int .i64 a0_0) := (blk_cell BK1001.out 0).trans rfl; have hcz5_1 : w4.cell? ⟨gb1001, 1, none⟩ = some (.slice A0_1 l0_1.length c0_1) := (blk_cell BK1001.out 1).trans rfl; have hcz5_2 : w4.cell? ⟨gb1001, 2, none⟩ = some (.string a0_2) := (blk_cell BK1001.out 2).trans rfl; have hcz5_3 : w4.cell? ⟨gb1001, 3, none⟩ = some (.string a0_3) := (blk_cell BK1001.out 3).trans rfl; have hcz5_4 : w4.cell? ⟨gb1001, 4, none⟩ = some (.string a0_4) := (blk_cell BK1001.out 4).trans rfl; have hcz5_5 : w4.cell? ⟨gb1001, 5, none⟩ = some (.string a0_5) := (blk_cell BK1001.out 5).trans rfl; have hcz5_6 : w4.cell? ⟨gb1001, 6, none⟩ = some (.int .i64 a0_6) := (blk_cell BK1001.out 6).trans rfl; have hfz5_0 := bf_ BK1001 0; have hfz5_1 := bf_ BK1001 1; have hfz5_2 := bf_ BK1001 2; have hfz5_3 := bf_ BK1001 3; have hfz5_4 := bf_ BK1001 4; have hfz5_5 := bf_ BK1001 5; have hfz5_6 := bf_ BK1001 6) | ((with_reducible refine gate_callee (f := 15) rfl ?_); refine goesL_ (some 9) rfl rfl Tryd.func15 (by kernel_rfl) rfl #[.agg #[.int .i64 a0_0, .slice A0_1 l0_1.length c0_1, .string a0_2, .string a0_3, .string a0_4, .string a0_5, .int .i64 a0_6], .int .i64 1048576] rfl ag_ ?_; (with_reducible refine (laws_szRelabel.calls k a0_0 _ _ l0_1 a0_2 a0_3 a0_4 a0_5 a0_6 1048576 t1002 _ ?side1 ?side2 A2.out).mono ?_); (case side1 => exact cc_ (Kd.C_below HR0_1.out HB.out)); (case side2 => exact HC0_1.out); rintro e w6 ⟨rfl, hb⟩; refine ⟨_, rfl, ?_⟩; replace BK1001 := am_ (blk_below (g := gb1001) (vk_ BK1001) hb); replace HB := am_ (below_step bg_ hb); (try clear hb); (try clear hb2); (try clear hk); (try clear hi)))
  go_ret
  exact ⟨rf_, bg_⟩
 ·rw [if_neg c3] at H
  have c3b0 : decide (t1002 < 0) = false := decide_eq_false c3
  clear c3
  replace H := Option.bind_eq_some_iff.mp H
  obtain ⟨⟨t1003, t1004, t1007, t1008, t1009, t1010, t1011⟩, A70, H⟩ := H
  replace H : ((spec_RelabelText.f k t1003 t1004 t1007 t1008 t1009 t1010 t1011).bind fun t1012 => ((laws_toRelabel.f k a0_0 l0_1 a0_2 a0_3 a0_4 a0_5 a0_6).bind fun bt1013 => ((impl_RelabelText.f k bt1013.1 bt1013.2.1 bt1013.2.2.1 bt1013.2.2.2.1 bt1013.2.2.2.2.1 bt1013.2.2.2.2.2.1 bt1013.2.2.2.2.2.2).bind fun t1023 => (if t1023.toList = t1012.toList then ((laws_toRelabel.f k a0_0 l0_1 a0_2 a0_3 a0_4 a0_5 a0_6).bind fun bt1024 => ((laws_eqRelabel.f k bt1013.1 bt1013.2.1 bt1013.2.2.1 bt1013.2.2.2.1 bt1013.2.2.2.2.1 bt1013.2.2.2.2.2.1 bt1013.2.2.2.2.2.2 bt1024.1 bt1024.2.1 bt1024.2.2.1 bt1024.2.2.2.1 bt1024.2.2.2.2.1 bt1024.2.2.2.2.2.1 bt1024.2.2.2.2.2.2).bind fun t1033 => (if t1033 = true then (some true) else (none)))) else (none))))) = some r := H
  have A7 := am_ A70
  clear A70
  replace H := Option.bind_eq_some_iff.mp H
  obtain ⟨t1012, A80, H⟩ := H
  replace H : ((laws_toRelabel.f k a0_0 l0_1 a0_2 a0_3 a0_4 a0_5 a0_6).bind fun bt1013 => ((impl_RelabelText.f k bt1013.1 bt1013.2.1 bt1013.2.2.1 bt1013.2.2.2.1 bt1013.2.2.2.2.1 bt1013.2.2.2.2.2.1 bt1013.2.2.2.2.2.2).bind fun t1023 => (if t1023.toList = t1012.toList then ((laws_toRelabel.f k a0_0 l0_1 a0_2 a0_3 a0_4 a0_5 a0_6).bind fun bt1024 => ((laws_eqRelabel.f k bt1013.1 bt1013.2.1 bt1013.2.2.1 bt1013.2.2.2.1 bt1013.2.2.2.2.1 bt1013.2.2.2.2.2.1 bt1013.2.2.2.2.2.2 bt1024.1 bt1024.2.1 bt1024.2.2.1 bt1024.2.2.2.1 bt1024.2.2.2.2.1 bt1024.2.2.2.2.2.1 bt1024.2.2.2.2.2.2).bind fun t1033 => (if t1033 = true then (some true) else (none)))) else (none)))) = some r := H
  have A8 := am_ A80
  clear A80
  replace H := Option.bind_eq_some_iff.mp H
  obtain ⟨⟨t1013, t1014, t1017, t1018, t1019, t1020, t1021⟩, A90, H⟩ := H
  replace H : ((impl_RelabelText.f k t1013 t1014 t1017 t1018 t1019 t1020 t1021).bind fun t1023 => (if t1023.toList = t1012.toList then ((laws_toRelabel.f k a0_0 l0_1 a0_2 a0_3 a0_4 a0_5 a0_6).bind fun bt1024 => ((laws_eqRelabel.f k t1013 t1014 t1017 t1018 t1019 t1020 t1021 bt1024.1 bt1024.2.1 bt1024.2.2.1 bt1024.2.2.2.1 bt1024.2.2.2.2.1 bt1024.2.2.2.2.2.1 bt1024.2.2.2.2.2.2).bind fun t1033 => (if t1033 = true then (some true) else (none)))) else (none))) = some r := H
  have A9 := am_ A90
  clear A90
  replace H := Option.bind_eq_some_iff.mp H
  obtain ⟨t1023, A100, H⟩ := H
  replace H : (if t1023.toList = t1012.toList then ((laws_toRelabel.f k a0_0 l0_1 a0_2 a0_3 a0_4 a0_5 a0_6).bind fun bt1024 => ((laws_eqRelabel.f k t1013 t1014 t1017 t1018 t1019 t1020 t1021 bt1024.1 bt1024.2.1 bt1024.2.2.1 bt1024.2.2.2.1 bt1024.2.2.2.2.1 bt1024.2.2.2.2.2.1 bt1024.2.2.2.2.2.2).bind fun t1033 => (if t1033 = true then (some true) else (none)))) else (none)) = some r := H
  have A10 := am_ A100
  clear A100
  by_cases c11 : t1023.toList = t1012.toList
  ·rw [if_pos c11] at H
   have c11b0 : (t1023.toList == t1012.toList) = true := beq_iff_eq.mpr c11
   have c11b1 : (t1023.toList != t1012.toList) = false := bne_eq_false_iff_eq.mpr c11
   clear c11
   replace H := Option.bind_eq_some_iff.mp H
   obtain ⟨⟨t1024, t1025, t1028, t1029, t1030, t1031, t1032⟩, A120, H⟩ := H
   replace H : ((laws_eqRelabel.f k t1013 t1014 t1017 t1018 t1019 t1020 t1021 t1024 t1025 t1028 t1029 t1030 t1031 t1032).bind fun t1033 => (if t1033 = true then (some true) else (none))) = some r := H
   have A12 := am_ A120
   clear A120
   replace H := Option.bind_eq_some_iff.mp H
   obtain ⟨t1033, A130, H⟩ := H
   replace H : (if t1033 = true then (some true) else (none)) = some r := H
   have A13 := am_ A130
   clear A130
   by_cases c14 : t1033 = true
   ·subst c14
    have H1 : (some true) = some r := by rw [if_pos rfl] at H; exact H
    clear H
    have H := H1
    clear H1
    obtain rfl := Option.some.inj H
    go_enter Tryd.func5, Tryd.ntmps5
    try go_wp2_with (first | ((with_reducible refine gate_dst (N := 1) rfl ?_); refine bx_ 1 #[.int .i64 a0_0, .slice A0_1 l0_1.length c0_1, .string a0_2, .string a0_3, .string a0_4, .string a0_5, .int .i64 a0_6] 35 ?_; intro gb1001 hg w15 hbox hb; have BK1001 := am_ (hbox); have GW1001 := am_ (gs_ hg : w.heap.size ≤ gb1001); replace HB := am_ (below_step bl_ hb); have GE1001 := GW1001; clear hb hbox hg; have hcz16_0 : w15.cell? ⟨gb1001, 0, none⟩ = some (.int .i64 a0_0) := (blk_cell BK1001.out 0).trans rfl; have hcz16_1 : w15.cell? ⟨gb1001, 1, none⟩ = some (.slice A0_1 l0_1.length c0_1) := (blk_cell BK1001.out 1).trans rfl; have hcz16_2 : w15.cell? ⟨gb1001, 2, none⟩ = some (.string a0_2) := (blk_cell BK1001.out 2).trans rfl; have hcz16_3 : w15.cell? ⟨gb1001, 3, none⟩ = some (.string a0_3) := (blk_cell BK1001.out 3).trans rfl; have hcz16_4 : w15.cell? ⟨gb1001, 4, none⟩ = some (.string a0_4) := (blk_cell BK1001.out 4).trans rfl; have hcz16_5 : w15.cell? ⟨gb1001, 5, none⟩ = some (.string a0_5) := (blk_cell BK1001.out 5).trans rfl; have hcz16_6 : w15.cell? ⟨gb1001, 6, none⟩ = some (.int .i64 a0_6) := (blk_cell BK1001.out 6).trans rfl; have hfz16_0 := bf_ BK1001 0; have hfz16_1 := bf_ BK1001 1; have hfz16_2 := bf_ BK1001 2; have hfz16_3 := bf_ BK1001 3; have hfz16_4 := bf_ BK1001 4; have hfz16_5 := bf_ BK1001 5; have hfz16_6 := bf_ BK1001 6) | ((with_reducible refine gate_callee (f := 15) rfl ?_); refine goesL_ (some 9) rfl rfl Tryd.func15 (by kernel_rfl) rfl #[.agg #[.int .i64 a0_0, .slice A0_1 l0_1.length c0_1, .string a0_2, .string a0_3, .string a0_4, .string a0_5, .int .i64 a0_6], .int .i64 1048576] rfl ag_ ?_; (with_reducible refine (laws_szRelabel.calls k a0_0 _ _ l0_1 a0_2 a0_3 a0_4 a0_5 a0_6 1048576 t1002 _ ?side1 ?side2 A2.out).mono ?_); (case side1 => exact cc_ (Kd.C_below HR0_1.out HB.out)); (case side2 => exact HC0_1.out); rintro e w17 ⟨rfl, hb⟩; refine ⟨_, rfl, ?_⟩; replace BK1001 := am_ (blk_below (g := gb1001) (vk_ BK1001) hb); replace HB := am_ (below_step bg_ hb); (try clear hb); (try clear hb2); (try clear hk); (try clear hi); have hcz18_0 : w17.cell? ⟨gb1001, 0, none⟩ = some (.int .i64 a0_0) := (blk_cell BK1001.out 0).trans rfl; have hcz18_1 : w17.cell? ⟨gb1001, 1, none⟩ = some (.slice A0_1 l0_1.length c0_1) := (blk_cell BK1001.out 1).trans rfl; have hcz18_2 : w17.cell? ⟨gb1001, 2, none⟩ = some (.string a0_2) := (blk_cell BK1001.out 2).trans rfl; have hcz18_3 : w17.cell? ⟨gb1001, 3, none⟩ = some (.string a0_3) := (blk_cell BK1001.out 3).trans rfl; have hcz18_4 : w17.cell? ⟨gb1001, 4, none⟩ = some (.string a0_4) := (blk_cell BK1001.out 4).trans rfl; have hcz18_5 : w17.cell? ⟨gb1001, 5, none⟩ = some (.string a0_5) := (blk_cell BK1001.out 5).trans rfl; have hcz18_6 : w17.cell? ⟨gb1001, 6, none⟩ = some (.int .i64 a0_6) := (blk_cell BK1001.out 6).trans rfl; have hfz18_0 := bf_ BK1001 0; have hfz18_1 := bf_ BK1001 1; have hfz18_2 := bf_ BK1001 2; have hfz18_3 := bf_ BK1001 3; have hfz18_4 := bf_ BK1001 4; have hfz18_5 := bf_ BK1001 5; have hfz18_6 := bf_ BK1001 6) | ((with_reducible refine gate_callee (f := 17) rfl ?_); refine goesL_ (some 13) rfl rfl Tryd.func17 (by kernel_rfl) rfl #[.agg #[.int .i64 a0_0, .slice A0_1 l0_1.length c0_1, .string a0_2, .string a0_3, .string a0_4, .string a0_5, .int .i64 a0_6]] rfl ag_ ?_; (with_reducible refine (laws_toRelabel.calls k a0_0 _ _ l0_1 a0_2 a0_3 a0_4 a0_5 a0_6 t1003 t1004 t1007 t1008 t1009 t1010 t1011 _ ?side1 ?side2 A7.out).mono ?_); (case side1 => exact cc_ (Kd.C_below HR0_1.out HB.out)); (case side2 => exact HC0_1.out); rintro e w19 ⟨v1005, rfl, ho0, hb⟩; refine ⟨_, rfl, ?_⟩; have HO1006 := am_ (Kd.R_lower ho0 (below_size bg_)); replace BK1001 := am_ (blk_below (g := gb1001) (vk_ BK1001) hb); replace HB := am_ (below_step bg_ hb); (try clear hb); (try clear hb2); (try clear hk); (try clear hi); (try clear ho0); obtain ⟨Ao20, co20, eo20⟩ := Kd.R_slice HO1006.out; subst eo20) | ((with_reducible refine gate_callee (f := 16) rfl ?_); refine goesL_ (some 14) rfl rfl Tryd.func16 (by kernel_rfl) rfl #[.agg #[.int .i64 t1003, .slice Ao20 t1004.length co20, .string t1007, .string t1008, .string t1009, .string t1010, .int .i64 t1011]] rfl ag_ ?_; (with_reducible refine (spec_RelabelText.calls k t1003 _ _ t1004 t1007 t1008 t1009 t1010 t1011 t1012 _ ?side1 ?side2 A8.out).mono ?_); (case side1 => exact cc_ (Kd.R_reads' HO1006.out).2.2); (case side2 => exact (Kd.R_reads' HO1006.out).2.1); rintro e w21 ⟨rfl, hb⟩; refine ⟨_, rfl, ?_⟩; replace HO1006 := am_ (Kd.R_below (ro_ HO1006) hb); replace BK1001 := am_ (blk_below (g := gb1001) (vk_ BK1001) hb); replace HB := am_ (below_step bg_ hb); (try clear hb); (try clear hb2); (try clear hk); (try clear hi); have hcz22_0 : w21.cell? ⟨gb1001, 0, none⟩ = some (.int .i64 a0_0) := (blk_cell BK1001.out 0).trans rfl; have hcz22_1 : w21.cell? ⟨gb1001, 1, none⟩ = some (.slice A0_1 l0_1.length c0_1) := (blk_cell BK1001.out 1).trans rfl; have hcz22_2 : w21.cell? ⟨gb1001, 2, none⟩ = some (.string a0_2) := (blk_cell BK1001.out 2).trans rfl; have hcz22_3 : w21.cell? ⟨gb1001, 3, none⟩ = some (.string a0_3) := (blk_cell BK1001.out 3).trans rfl; have hcz22_4 : w21.cell? ⟨gb1001, 4, none⟩ = some (.string a0_4) := (blk_cell BK1001.out 4).trans rfl; have hcz22_5 : w21.cell? ⟨gb1001, 5, none⟩ = some (.string a0_5) := (blk_cell BK1001.out 5).trans rfl; have hcz22_6 : w21.cell? ⟨gb1001, 6, none⟩ = some (.int .i64 a0_6) := (blk_cell BK1001.out 6).trans rfl; have hfz22_0 := bf_ BK1001 0; have hfz22_1 := bf_ BK1001 1; have hfz22_2 := bf_ BK1001 2; have hfz22_3 := bf_ BK1001 3; have hfz22_4 := bf_ BK1001 4; have hfz22_5 := bf_ BK1001 5; have hfz22_6 := bf_ BK1001 6) | ((with_reducible refine gate_callee (f := 17) rfl ?_); refine goesL_ (some 16) rfl rfl Tryd.func17 (by kernel_rfl) rfl #[.agg #[.int .i64 a0_0, .slice A0_1 l0_1.length c0_1, .string a0_2, .string a0_3, .string a0_4, .string a0_5, .int .i64 a0_6]] rfl ag_ ?_; (with_reducible refine (laws_toRelabel.calls k a0_0 _ _ l0_1 a0_2 a0_3 a0_4 a0_5 a0_6 t1013 t1014 t1017 t1018 t1019 t1020 t1021 _ ?side1 ?side2 A9.out).mono ?_); (case side1 => exact cc_ (Kd.C_below HR0_1.out HB.out)); (case side2 => exact HC0_1.out); rintro e w23 ⟨v1015, rfl, ho0, hb⟩; refine ⟨_, rfl, ?_⟩; have HO1016 := am_ (Kd.R_lower (Kd.R_new' ho0 (Kd.R_lt (ro_ HO1006))) (below_size bg_)); replace HO1006 := am_ (Kd.R_elder' (ro_ HO1006) (Kd.R_base ho0) hb); replace BK1001 := am_ (blk_below (g := gb1001) (vk_ BK1001) hb); replace HB := am_ (below_step bg_ hb); (try clear hb); (try clear hb2); (try clear hk); (try clear hi); (try clear ho0)) | ((with_reducible refine gate_dst (N := 5) rfl ?_); refine bx_ 5 #[.int .i64 0, .slice none 0 0, .string (⟨#[]⟩ : ByteArray), .string (⟨#[]⟩ : ByteArray), .string (⟨#[]⟩ : ByteArray), .string (⟨#[]⟩ : ByteArray), .int .i64 0] 38 ?_; intro gb1022 hg w24 hbox hb; have BK1022 := am_ (hbox); have GW1022 := am_ (gg_ hg : w.heap.size ≤ gb1022); have NB1001_1022 := am_ ((by rw [hg]; exact Nat.ne_of_lt (blk_lt (g := gb1001) (o := .cells #[.int .i64 a0_0, .slice A0_1 l0_1.length c0_1, .string a0_2, .string a0_3, .string a0_4, .string a0_5, .int .i64 a0_6] 35 (0, 0)) (vk_ BK1001)) : gb1001 ≠ gb1022)); have NB1022_1001 := am_ ((by rw [hg]; exact Nat.ne_of_gt (blk_lt (g := gb1001) (o := .cells #[.int .i64 a0_0, .slice A0_1 l0_1.length c0_1, .string a0_2, .string a0_3, .string a0_4, .string a0_5, .int .i64 a0_6] 35 (0, 0)) (vk_ BK1001)) : gb1022 ≠ gb1001)); replace HO1006 := am_ (Kd.R_below (ro_ HO1006) hb); replace HO1016 := am_ (Kd.R_below (ro_ HO1016) hb); replace BK1001 := am_ (blk_below (g := gb1001) (vk_ BK1001) hb); replace HB := am_ (below_step bg_ hb); have GE1022 := GW1022; clear hb hbox hg; have hnb25 := NB1022_1001.out; have hnc25 := NB1001_1022.out; have hcz26_0 : w24.cell? ⟨gb1022, 0, none⟩ = some (.int .i64 0) := (blk_cell BK1022.out 0).trans rfl; have hcz26_1 : w24.cell? ⟨gb1022, 1, none⟩ = some (.slice none 0 0) := (blk_cell BK1022.out 1).trans rfl; have hcz26_2 : w24.cell? ⟨gb1022, 2, none⟩ = some (.string (⟨#[]⟩ : ByteArray)) := (blk_cell BK1022.out 2).trans rfl; have hcz26_3 : w24.cell? ⟨gb1022, 3, none⟩ = some (.string (⟨#[]⟩ : ByteArray)) := (blk_cell BK1022.out 3).trans rfl; have hcz26_4 : w24.cell? ⟨gb1022, 4, none⟩ = some (.string (⟨#[]⟩ : ByteArray)) := (blk_cell BK1022.out 4).trans rfl; have hcz26_5 : w24.cell? ⟨gb1022, 5, none⟩ = some (.string (⟨#[]⟩ : ByteArray)) := (blk_cell BK1022.out 5).trans rfl; have hcz26_6 : w24.cell? ⟨gb1022, 6, none⟩ = some (.int .i64 0) := (blk_cell BK1022.out 6).trans rfl; have hfz26_0 := bf_ BK1022 0; have hfz26_1 := bf_ BK1022 1; have hfz26_2 := bf_ BK1022 2; have hfz26_3 := bf_ BK1022 3; have hfz26_4 := bf_ BK1022 4; have hfz26_5 := bf_ BK1022 5; have hfz26_6 := bf_ BK1022 6; obtain ⟨Ao27, co27, eo27⟩ := Kd.R_slice HO1016.out; subst eo27) | ((with_reducible refine gate_callee (f := 18) rfl ?_); refine goesL_ (some 18) rfl rfl Tryd.func18 (by kernel_rfl) rfl #[.agg #[.int .i64 t1013, .slice Ao27 t1014.length co27, .string t1017, .string t1018, .string t1019, .string t1020, .int .i64 t1021]] rfl ag_ ?_; (with_reducible refine (impl_RelabelText.calls k t1013 _ _ t1014 t1017 t1018 t1019 t1020 t1021 t1023 _ ?side1 ?side2 A10.out).mono ?_); (case side1 => refine (Kd.R_reads' (e := 9) (base := w.heap.size) (ok := fun k_ => (True ∧ some k_ ≠ (.slice Ao20 t1004.length co20 : Value).ownBlock)) (n := t1014.length) (c := co27) ?_).2.2; exact (by (with_reducible repeat (first | apply Kd.R_alloc | apply Kd.R_drewN | apply Kd.R_drew)); exact (Kd.R_mono (Kd.R_far (p := ⟨gb1022, 6, none⟩) (Kd.R_far (p := ⟨gb1022, 5, none⟩) (Kd.R_far (p := ⟨gb1022, 4, none⟩) (Kd.R_far (p := ⟨gb1022, 3, none⟩) (Kd.R_far (p := ⟨gb1022, 2, none⟩) (Kd.R_far (p := ⟨gb1022, 1, none⟩) (Kd.R_far (p := ⟨gb1022, 0, none⟩) (Kd.R_types HO1016.out BK1022.out (by decide)) (fun _ hk => hk.2) (.int .i64 t1013)) (fun _ hk => hk.2) (.slice Ao27 t1014.length co27)) (fun _ hk => hk.2) (.string t1017)) (fun _ hk => hk.2) (.string t1018)) (fun _ hk => hk.2) (.string t1019)) (fun _ hk => hk.2) (.string t1020)) (fun _ hk => hk.2) (.int .i64 t1021)) (fun _ h_ => h_.1)))); (case side2 => exact (Kd.R_reads' HO1016.out).2.1); rintro e w28 ⟨rfl, hb⟩; refine ⟨_, rfl, ?_⟩; replace HO1006 := am_ (Kd.R_below (by (with_reducible repeat (first | apply Kd.R_alloc | apply Kd.R_drewN | apply Kd.R_drew)); exact (Kd.R_mono (Kd.R_far (p := ⟨gb1022, 6, none⟩) (Kd.R_far (p := ⟨gb1022, 5, none⟩) (Kd.R_far (p := ⟨gb1022, 4, none⟩) (Kd.R_far (p := ⟨gb1022, 3, none⟩) (Kd.R_far (p := ⟨gb1022, 2, none⟩) (Kd.R_far (p := ⟨gb1022, 1, none⟩) (Kd.R_far (p := ⟨gb1022, 0, none⟩) (Kd.R_types HO1006.out BK1022.out (by decide)) (fun _ hk => hk.2) (.int .i64 t1013)) (fun _ hk => hk.2) (.slice Ao27 t1014.length co27)) (fun _ hk => hk.2) (.string t1017)) (fun _ hk => hk.2) (.string t1018)) (fun _ hk => hk.2) (.string t1019)) (fun _ hk => hk.2) (.string t1020)) (fun _ hk => hk.2) (.int .i64 t1021)) (fun _ h_ => h_.1))) hb); replace HO1016 := am_ (Kd.R_below (by (with_reducible repeat (first | apply Kd.R_alloc | apply Kd.R_drewN | apply Kd.R_drew)); exact (Kd.R_mono (Kd.R_far (p := ⟨gb1022, 6, none⟩) (Kd.R_far (p := ⟨gb1022, 5, none⟩) (Kd.R_far (p := ⟨gb1022, 4, none⟩) (Kd.R_far (p := ⟨gb1022, 3, none⟩) (Kd.R_far (p := ⟨gb1022, 2, none⟩) (Kd.R_far (p := ⟨gb1022, 1, none⟩) (Kd.R_far (p := ⟨gb1022, 0, none⟩) (Kd.R_types HO1016.out BK1022.out (by decide)) (fun _ hk => hk.2) (.int .i64 t1013)) (fun _ hk => hk.2) (.slice Ao27 t1014.length co27)) (fun _ hk => hk.2) (.string t1017)) (fun _ hk => hk.2) (.string t1018)) (fun _ hk => hk.2) (.string t1019)) (fun _ hk => hk.2) (.string t1020)) (fun _ hk => hk.2) (.int .i64 t1021)) (fun _ h_ => h_.1))) hb); replace BK1001 := am_ (blk_below (g := gb1001) (o := .cells #[.int .i64 a0_0, .slice A0_1 l0_1.length c0_1, .string a0_2, .string a0_3, .string a0_4, .string a0_5, .int .i64 a0_6] 35 (0, 0)) (by (with_reducible repeat (first | refine blk_drewN ?_ _ | refine blk_drew ?_ | refine blk_alloc ?_ _)); refine blk_far ?_ NB1001_1022.out _; (with_reducible repeat (first | refine blk_drewN ?_ _ | refine blk_drew ?_ | refine blk_alloc ?_ _)); refine blk_far ?_ NB1001_1022.out _; (with_reducible repeat (first | refine blk_drewN ?_ _ | refine blk_drew ?_ | refine blk_alloc ?_ _)); refine blk_far ?_ NB1001_1022.out _; (with_reducible repeat (first | refine blk_drewN ?_ _ | refine blk_drew ?_ | refine blk_alloc ?_ _)); refine blk_far ?_ NB1001_1022.out _; (with_reducible repeat (first | refine blk_drewN ?_ _ | refine blk_drew ?_ | refine blk_alloc ?_ _)); refine blk_far ?_ NB1001_1022.out _; (with_reducible repeat (first | refine blk_drewN ?_ _ | refine blk_drew ?_ | refine blk_alloc ?_ _)); refine blk_far ?_ NB1001_1022.out _; (with_reducible repeat (first | refine blk_drewN ?_ _ | refine blk_drew ?_ | refine blk_alloc ?_ _)); refine blk_far ?_ NB1001_1022.out _; (with_reducible repeat (first | refine blk_drewN ?_ _ | refine blk_drew ?_ | refine blk_alloc ?_ _)); exact BK1001.out) hb); replace BK1022 := am_ (blk_below (g := gb1022) (o := .cells #[.int .i64 t1013, .slice Ao27 t1014.length co27, .string t1017, .string t1018, .string t1019, .string t1020, .int .i64 t1021] 38 (0, 0)) (by (with_reducible repeat (first | refine blk_drewN ?_ _ | refine blk_drew ?_ | refine blk_alloc ?_ _)); refine blk_put (cs := #[.int .i64 t1013, .slice Ao27 t1014.length co27, .string t1017, .string t1018, .string t1019, .string t1020, .int .i64 0]) ?_ 6 _ rfl; (with_reducible repeat (first | refine blk_drewN ?_ _ | refine blk_drew ?_ | refine blk_alloc ?_ _)); refine blk_put (cs := #[.int .i64 t1013, .slice Ao27 t1014.length co27, .string t1017, .string t1018, .string t1019, .string (⟨#[]⟩ : ByteArray), .int .i64 0]) ?_ 5 _ rfl; (with_reducible repeat (first | refine blk_drewN ?_ _ | refine blk_drew ?_ | refine blk_alloc ?_ _)); refine blk_put (cs := #[.int .i64 t1013, .slice Ao27 t1014.length co27, .string t1017, .string t1018, .string (⟨#[]⟩ : ByteArray), .string (⟨#[]⟩ : ByteArray), .int .i64 0]) ?_ 4 _ rfl; (with_reducible repeat (first | refine blk_drewN ?_ _ | refine blk_drew ?_ | refine blk_alloc ?_ _)); refine blk_put (cs := #[.int .i64 t1013, .slice Ao27 t1014.length co27, .string t1017, .string (⟨#[]⟩ : ByteArray), .string (⟨#[]⟩ : ByteArray), .string (⟨#[]⟩ : ByteArray), .int .i64 0]) ?_ 3 _ rfl; (with_reducible repeat (first | refine blk_drewN ?_ _ | refine blk_drew ?_ | refine blk_alloc ?_ _)); refine blk_put (cs := #[.int .i64 t1013, .slice Ao27 t1014.length co27, .string (⟨#[]⟩ : ByteArray), .string (⟨#[]⟩ : ByteArray), .string (⟨#[]⟩ : ByteArray), .string (⟨#[]⟩ : ByteArray), .int .i64 0]) ?_ 2 _ rfl; (with_reducible repeat (first | refine blk_drewN ?_ _ | refine blk_drew ?_ | refine blk_alloc ?_ _)); refine blk_put (cs := #[.int .i64 t1013, .slice none 0 0, .string (⟨#[]⟩ : ByteArray), .string (⟨#[]⟩ : ByteArray), .string (⟨#[]⟩ : ByteArray), .string (⟨#[]⟩ : ByteArray), .int .i64 0]) ?_ 1 _ rfl; (with_reducible repeat (first | refine blk_drewN ?_ _ | refine blk_drew ?_ | refine blk_alloc ?_ _)); refine blk_put (cs := #[.int .i64 0, .slice none 0 0, .string (⟨#[]⟩ : ByteArray), .string (⟨#[]⟩ : ByteArray), .string (⟨#[]⟩ : ByteArray), .string (⟨#[]⟩ : ByteArray), .int .i64 0]) ?_ 0 _ rfl; (with_reducible repeat (first | refine blk_drewN ?_ _ | refine blk_drew ?_ | refine blk_alloc ?_ _)); exact BK1022.out) hb); replace HB := am_ (below_step bg_ hb); (try clear hb); (try clear hb2); (try clear hk); (try clear hi)))
    have n0_ := am_ (Kd.R_drew HO1006.out)
    have n1_ := am_ (Kd.R_drew HO1016.out)
    have n2_ := am_ (blk_drew BK1001.out)
    have n3_ := am_ (blk_drew BK1022.out)
    have n4_ := am_ (below_drew1 HB.out)
    clear HO1006
    clear HO1016
    clear BK1001
    clear BK1022
    clear HB
    have HO1006 := n0_
    have HO1016 := n1_
    have BK1001 := n2_
    have BK1022 := n3_
    have HB := n4_
    clear n0_ n1_ n2_ n3_ n4_
    refine start_ (n := 5) (S := fun w' => w'.cell? ⟨gb1022, 0, none⟩ = some (.int .i64 t1013) ∧ w'.cell? ⟨gb1022, 1, none⟩ = some (.slice Ao27 t1014.length co27) ∧ w'.cell? ⟨gb1022, 2, none⟩ = some (.string t1017) ∧ w'.cell? ⟨gb1022, 3, none⟩ = some (.string t1018) ∧ w'.cell? ⟨gb1022, 4, none⟩ = some (.string t1019) ∧ w'.cell? ⟨gb1022, 5, none⟩ = some (.string t1020) ∧ w'.cell? ⟨gb1022, 6, none⟩ = some (.int .i64 t1021) ∧ w'.cell? ⟨gb1001, 0, none⟩ = some (.int .i64 a0_0) ∧ w'.cell? ⟨gb1001, 1, none⟩ = some (.slice A0_1 l0_1.length c0_1) ∧ w'.cell? ⟨gb1001, 2, none⟩ = some (.string a0_2) ∧ w'.cell? ⟨gb1001, 3, none⟩ = some (.string a0_3) ∧ w'.cell? ⟨gb1001, 4, none⟩ = some (.string a0_4) ∧ w'.cell? ⟨gb1001, 5, none⟩ = some (.string a0_5) ∧ w'.cell? ⟨gb1001, 6, none⟩ = some (.int .i64 a0_6)) (ds := []) (bz 5 0) (by kernel_rfl) rfl rfl ⟨(blk_cell BK1022.out 0).trans rfl, (blk_cell BK1022.out 1).trans rfl, (blk_cell BK1022.out 2).trans rfl, (blk_cell BK1022.out 3).trans rfl, (blk_cell BK1022.out 4).trans rfl, (blk_cell BK1022.out 5).trans rfl, (blk_cell BK1022.out 6).trans rfl, (blk_cell BK1001.out 0).trans rfl, (blk_cell BK1001.out 1).trans rfl, (blk_cell BK1001.out 2).trans rfl, (blk_cell BK1001.out 3).trans rfl, (blk_cell BK1001.out 4).trans rfl, (blk_cell BK1001.out 5).trans rfl, (blk_cell BK1001.out 6).trans rfl⟩ (fun hHeld => ?_)
    generalize w28.drew = w29 at HO1006 HO1016 BK1001 BK1022 HB hHeld ⊢
    refine take_ (i := 0) (N := some 22) (v := ?_) (a' := ?_) (bz 5 1) rfl rfl (by kernel_rfl) (fun _ _ _ h => h) (Or.inl ⟨by rfl, ?_⟩) hHeld ?_ ?_
    rotate_left
    ·rintro w' ⟨s0, s1, s2, s3, s4, s5, s6, s7, s8, s9, s10, s11, s12, s13⟩
     go_simp
     with_reducible rfl
    rotate_left
    ·simp only [Act.put, List.setIfInBounds_toArray, List.set_cons_zero, List.set_cons_succ, i64_w, i32_w]
     rfl
    refine take_ (i := 1) (N := some 23) (v := ?_) (a' := ?_) (bz 5 3) rfl rfl (by kernel_rfl) (fun _ _ _ h => h) (Or.inl ⟨by rfl, ?_⟩) hHeld ?_ ?_
    rotate_left
    ·rintro w' ⟨s0, s1, s2, s3, s4, s5, s6, s7, s8, s9, s10, s11, s12, s13⟩
     go_simp
     with_reducible rfl
    rotate_left
    ·simp only [Act.put, List.setIfInBounds_toArray, List.set_cons_zero, List.set_cons_succ, i64_w, i32_w]
     rfl
    refine one_ (i := 2) (N := some 24) (bz 5 7) rfl rfl (by kernel_rfl) (by decide) (fun K hK => ?_)
    refine goes_ Tryd.func17 (by kernel_rfl) rfl #[.agg #[.int .i64 a0_0, .slice A0_1 l0_1.length c0_1, .string a0_2, .string a0_3, .string a0_4, .string a0_5, .int .i64 a0_6]] (by rfl) rfl rfl ag_ ?_
    with_reducible refine (laws_toRelabel.calls k a0_0 _ _ l0_1 a0_2 a0_3 a0_4 a0_5 a0_6 t1024 t1025 t1028 t1029 t1030 t1031 t1032 _ ?side1 ?side2 A12.out).mono ?_
    (case side1 => exact cc_ (Kd.C_below HR0_1.out HB.out))
    (case side2 => exact HC0_1.out)
    rintro e w30 ⟨v1026, rfl, ho0, hb⟩
    refine ⟨_, rfl, ?_⟩
    have n0_ := am_ (Kd.R_elder' (ro_ HO1006) (Kd.R_base ho0) hb)
    have n1_ := am_ (Kd.R_elder' (ro_ HO1016) (Kd.R_base ho0) hb)
    have n2_ := am_ (Kd.R_lower (Kd.R_new' (Kd.R_new' ho0 (Kd.R_lt (ro_ HO1006))) (Kd.R_lt (ro_ HO1016))) (below_size bg_))
    have n3_ := am_ (blk_below (g := gb1001) (vk_ BK1001) hb)
    have n4_ := am_ (blk_below (g := gb1022) (vk_ BK1022) hb)
    have n5_ := am_ (below_step bg_ hb)
    clear HO1006
    clear HO1016
    clear BK1001
    clear BK1022
    clear HB
    have HO1006 := n0_
    have HO1016 := n1_
    have HO1027 := n2_
    have BK1001 := n3_
    have BK1022 := n4_
    have HB := n5_
    clear n0_ n1_ n2_ n3_ n4_ n5_
    (try clear hb)
    (try clear hb2)
    (try clear hk)
    (try clear hi)
    (try clear ho0)
    obtain ⟨Ao31, co31, eo31⟩ := Kd.R_slice HO1027.out
    (first | subst eo31 | (injection eo31 with f1_ f2_ f3_; have f4_ := f1_.symm; have f5_ := f3_.symm; clear f1_ f2_ f3_; subst f4_; subst f5_))
    refine hK.out _ _ ⟨(blk_cell BK1022.out 0).trans rfl, (blk_cell BK1022.out 1).trans rfl, (blk_cell BK1022.out 2).trans rfl, (blk_cell BK1022.out 3).trans rfl, (blk_cell BK1022.out 4).trans rfl, (blk_cell BK1022.out 5).trans rfl, (blk_cell BK1022.out 6).trans rfl, (blk_cell BK1001.out 0).trans rfl, (blk_cell BK1001.out 1).trans rfl, (blk_cell BK1001.out 2).trans rfl, (blk_cell BK1001.out 3).trans rfl, (blk_cell BK1001.out 4).trans rfl, (blk_cell BK1001.out 5).trans rfl, (blk_cell BK1001.out 6).trans rfl⟩ (fun hHeld => ?_)
    clear hK K
    refine norm_ (a' := ?_) ?_ ?_
    rotate_left
    ·show Act.put _ (some 24) _ = _
     simp only [Act.put, List.setIfInBounds_toArray, List.set_cons_zero, List.set_cons_succ, i64_w, i32_w]
     rfl
    refine one_ (i := 3) (N := some 25) (bz 5 15) rfl rfl (by kernel_rfl) (by decide) (fun K hK => ?_)
    refine goes_ Tryd.func19 (by kernel_rfl) rfl #[.agg #[.int .i64 t1013, .slice Ao27 t1014.length co27, .string t1017, .string t1018, .string t1019, .string t1020, .int .i64 t1021], .agg #[.int .i64 t1024, .slice Ao31 t1025.length co31, .string t1028, .string t1029, .string t1030, .string t1031, .int .i64 t1032]] (by rfl) rfl rfl ag_ ?_
    with_reducible refine (laws_eqRelabel.calls k t1013 _ _ t1014 t1017 t1018 t1019 t1020 t1021 t1024 _ _ t1025 t1028 t1029 t1030 t1031 t1032 true _ ?side1 ?side2 ?side3 ?side4 A13.out).mono ?_
    (case side1 => exact cc_ (Kd.R_reads' HO1016.out).2.2)
    (case side2 => exact (Kd.R_reads' HO1016.out).2.1)
    (case side3 => exact cc_ (Kd.R_reads' HO1027.out).2.2)
    (case side4 => exact (Kd.R_reads' HO1027.out).2.1)
    rintro e w32 ⟨rfl, hb⟩
    refine ⟨_, rfl, ?_⟩
    have n0_ := am_ (Kd.R_below (ro_ HO1006) hb)
    have n1_ := am_ (Kd.R_below (ro_ HO1016) hb)
    have n2_ := am_ (Kd.R_below (ro_ HO1027) hb)
    have n3_ := am_ (blk_below (g := gb1001) (vk_ BK1001) hb)
    have n4_ := am_ (blk_below (g := gb1022) (vk_ BK1022) hb)
    have n5_ := am_ (below_step bg_ hb)
    clear HO1006
    clear HO1016
    clear HO1027
    clear BK1001
    clear BK1022
    clear HB
    have HO1006 := n0_
    have HO1016 := n1_
    have HO1027 := n2_
    have BK1001 := n3_
    have BK1022 := n4_
    have HB := n5_
    clear n0_ n1_ n2_ n3_ n4_ n5_
    (try clear hb)
    (try clear hb2)
    (try clear hk)
    (try clear hi)
    refine hK.out _ _ ⟨(blk_cell BK1022.out 0).trans rfl, (blk_cell BK1022.out 1).trans rfl, (blk_cell BK1022.out 2).trans rfl, (blk_cell BK1022.out 3).trans rfl, (blk_cell BK1022.out 4).trans rfl, (blk_cell BK1022.out 5).trans rfl, (blk_cell BK1022.out 6).trans rfl, (blk_cell BK1001.out 0).trans rfl, (blk_cell BK1001.out 1).trans rfl, (blk_cell BK1001.out 2).trans rfl, (blk_cell BK1001.out 3).trans rfl, (blk_cell BK1001.out 4).trans rfl, (blk_cell BK1001.out 5).trans rfl, (blk_cell BK1001.out 6).trans rfl⟩ (fun hHeld => ?_)
    clear hK K
    refine norm_ (a' := ?_) ?_ ?_
    rotate_left
    ·show Act.put _ (some 25) _ = _
     simp only [Act.put, List.setIfInBounds_toArray, List.set_cons_zero, List.set_cons_succ, i64_w, i32_w]
     rfl
    refine pure_ (i := 4) (N := some 26) (v := ?_) (a' := ?_) (bz 5 31) rfl rfl (by kernel_rfl) (fun _ _ _ h => h) (Or.inl ⟨by rfl, ?_⟩) ?_ ?_
    rotate_left
    ·intro w'
     go_simp
     with_reducible rfl
    rotate_left
    ·simp only [Act.put, List.setIfInBounds_toArray, List.set_cons_zero, List.set_cons_succ, i64_w, i32_w]
     rfl
    refine done_ (by kernel_rfl) ?_
    try go_wp2
    go_ret
    exact ⟨rf_, bg_⟩
   ·replace c14 := Bool.eq_false_iff.mpr c14
    subst c14
    have H1 : (none) = some r := by rw [if_neg (show ¬ (false = true) by decide)] at H; exact H
    clear H
    have H := H1
    clear H1
    exact absurd H (by simp)
  ·rw [if_neg c11] at H
   exact absurd H (by simp)

end Go.Proofs.YtknlgignjbghkaaDoor.Pr
