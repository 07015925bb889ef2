/- Functions of the given program as plain Lean functions, and that the machine's calls come to them; written by a program of this session; no condition but those that each theorem states. -/
import Derived.Test.YtjapdjkckhcelaaPrx0
import Derived.Test.YtjapdjkckhcelaaPrxgd801bn1
import Derived.Test.YtjapdjkckhcelaaPrxge3834n1
import Derived.Test.YtjapdjkckhcelaaPrxge3834n2
namespace Go.Proofs.Ytjapdjkckhcelaa.Pr
open Go.RowKit Go.Proofs.YtjapdjkckhcelaaW.PrintWords Go.Proofs.YtjapdjkckhcelaaW.PrintLast Go.Proofs.YtjapdjkckhcelaaW.PrintMore
attribute [local go_sem] max2_int min2_int max_two min_two max_three min_three max_four min_four   -- for this text's walks alone
set_option linter.unusedVariables false
set_option linter.unusedSimpArgs false

/-! ### laws_FnExactAddBits: function 4 -/
def laws_FnExactAddBits.j0 : Nat → Int → Int → Bool → List Int → Int → List Int → Int → List Int → Int → Option (Bool)
 | 0, _, _, _, _, _, _, _, _, _ => none
 | k + 1, x1, x2, x50, x1002000, x1002001, x1012000, x1012001, x1022000, x1022001 => if x50 = true then (none) else ((laws_markBits.f k x1022000 x1022001 1).bind fun bt1031 => ((laws_heldBits.f k bt1031.2 x1022001 1).bind fun t1033 => (if t1033 < 0 then (none) else (if t1033 = bt1031.1 then ((laws_toBits.f k x1002000 x1002001).bind fun bt1034 => ((impl_AddBits.f k bt1034.1 bt1034.2 x1 x2).bind fun bt1038 => ((laws_eqBits.f k bt1038.1 bt1038.2 x1012000 x1012001).bind fun t1043 => (if t1043 = true then ((laws_heldBits.f k bt1031.2 x1022001 1).bind fun t1044 => (if t1044 < 0 then (none) else (if t1044 = bt1031.1 then (some true) else (none)))) else (none))))) else (none)))))
def laws_FnExactAddBits.f (k : Nat) (l0_0 : List Int) (a0_1 : Int) (a1 : Int) (a2 : Int) : Option (Bool) := (laws_szBits.f l0_0 a0_1 1048576).bind fun t1002 => (if t1002 < 0 then (some true) else ((laws_toBits.f k l0_0 a0_1).bind fun bt1003 => ((spec_AddBits.f k bt1003.1 bt1003.2 a1 a2).bind fun bt1007 => ((laws_toBits.f k l0_0 a0_1).bind fun bt1012 => ((impl_AddBits.f k bt1012.1 bt1012.2 a1 a2).bind fun bt1017 => ((laws_eqBits.f k bt1017.1 bt1017.2 bt1007.1 bt1007.2).bind fun t1022 => (if t1022 = true then ((laws_toBits.f k l0_0 a0_1).bind fun bt1023 => ((laws_eqBits.f k bt1012.1 bt1012.2 bt1023.1 bt1023.2).bind fun t1027 => (if t1027 = true then ((laws_markBits.f k bt1012.1 bt1012.2 1).bind fun bt1028 => (if bt1028.1 < 0 then (laws_FnExactAddBits.j0 k a1 a2 true l0_0 a0_1 bt1007.1 bt1007.2 bt1017.1 bt1017.2) else ((laws_eqBits.f k bt1017.1 bt1017.2 bt1007.1 bt1007.2).bind fun t1030 => (laws_FnExactAddBits.j0 k a1 a2 (!t1030) l0_0 a0_1 bt1007.1 bt1007.2 bt1017.1 bt1017.2)))) else (none)))) else (none))))))))
theorem laws_FnExactAddBits.mono_l : ∀ k, (∀ y0 y1 y2 y3 y4 y5 y6 y7 y8, LeO (laws_FnExactAddBits.j0 k y0 y1 y2 y3 y4 y5 y6 y7 y8) (laws_FnExactAddBits.j0 (k + 1) y0 y1 y2 y3 y4 y5 y6 y7 y8))
 | 0 => fun _ _ _ _ _ _ _ _ _ r h => by simp [laws_FnExactAddBits.j0] at h
 | k + 1 => by
  have ih0 := laws_FnExactAddBits.mono_l k
  ·intro y0 y1 y2 y3 y4 y5 y6 y7 y8
   unfold laws_FnExactAddBits.j0
   repeat' first
   | with_reducible first | exact ih0 _ _ _ _ _ _ _ _ _ | exact impl_AddBits.mono _ _ _ _ _ | exact laws_eqBits.mono _ _ _ _ _ | exact laws_heldBits.mono _ _ _ _ | exact laws_markBits.mono _ _ _ _ | exact laws_toBits.mono _ _ _ | exact spec_AddBits.mono _ _ _ _ _ | exact LeO.refl _ | exact LeO.none _ | refine LeO.ite ?_ ?_ | refine LeO.bind ?_ (fun _ => ?_)
   | exact ih0 _ _ _ _ _ _ _ _ _
   | exact impl_AddBits.mono _ _ _ _ _
   | exact laws_eqBits.mono _ _ _ _ _
   | exact laws_heldBits.mono _ _ _ _
   | exact laws_markBits.mono _ _ _ _
   | exact laws_toBits.mono _ _ _
   | exact spec_AddBits.mono _ _ _ _ _
   | exact LeO.none _
   | refine LeO.ite ?_ ?_
   | refine LeO.bind ?_ (fun _ => ?_)
theorem laws_FnExactAddBits.mono : ∀ a0 a1 a2 a3 k, LeO (laws_FnExactAddBits.f k a0 a1 a2 a3) (laws_FnExactAddBits.f (k + 1) a0 a1 a2 a3) := by
 intro a0 a1 a2 a3 k
 have ih0 := laws_FnExactAddBits.mono_l k
 unfold laws_FnExactAddBits.f
 repeat' first
   | with_reducible first | exact ih0 _ _ _ _ _ _ _ _ _ | exact impl_AddBits.mono _ _ _ _ _ | exact laws_eqBits.mono _ _ _ _ _ | exact laws_heldBits.mono _ _ _ _ | exact laws_markBits.mono _ _ _ _ | exact laws_toBits.mono _ _ _ | exact spec_AddBits.mono _ _ _ _ _ | exact LeO.refl _ | exact LeO.none _ | refine LeO.ite ?_ ?_ | refine LeO.bind ?_ (fun _ => ?_)
   | exact ih0 _ _ _ _ _ _ _ _ _
   | exact impl_AddBits.mono _ _ _ _ _
   | exact laws_eqBits.mono _ _ _ _ _
   | exact laws_heldBits.mono _ _ _ _
   | exact laws_markBits.mono _ _ _ _
   | exact laws_toBits.mono _ _ _
   | exact spec_AddBits.mono _ _ _ _ _
   | exact LeO.none _
   | refine LeO.ite ?_ ?_
   | refine LeO.bind ?_ (fun _ => ?_)
set_option maxHeartbeats 8000000 in
set_option maxRecDepth 100000 in
theorem laws_FnExactAddBits.calls (k : Nat) (A0_0 : Option Addr) (c0_0 : Nat) (l0_0 : List Int) (a0_1 : Int) (a1 : Int) (a2 : Int) (r : Bool) (w : World) (hr0_0 : Kd.C (Kd.int .u8) w A0_0 l0_0.length l0_0) (hc0_0 : l0_0.length ≤ c0_0) (h : laws_FnExactAddBits.f k l0_0 a0_1 a1 a2 = some r) :
  Calls Try.prog 4 #[.agg #[.slice A0_0 l0_0.length c0_0, .int .i64 a0_1], .int .i64 a1, .int .i64 a2] w fun e w' => e = .returned (.bool r) ∧ Below w.heap.size w w' := by
 have hu24 := Try.underlying24
 have hu28 := Try.underlying28
 have HR0_0 := am_ hr0_0
 have HC0_0 := am_ hc0_0
 clear hr0_0 hc0_0
 have HB := am_ (Below.refl w.heap.size w)
 have H : ((laws_szBits.f l0_0 a0_1 1048576).bind fun t1002 => (if t1002 < 0 then (some true) else ((laws_toBits.f k l0_0 a0_1).bind fun bt1003 => ((spec_AddBits.f k bt1003.1 bt1003.2 a1 a2).bind fun bt1007 => ((laws_toBits.f k l0_0 a0_1).bind fun bt1012 => ((impl_AddBits.f k bt1012.1 bt1012.2 a1 a2).bind fun bt1017 => ((laws_eqBits.f k bt1017.1 bt1017.2 bt1007.1 bt1007.2).bind fun t1022 => (if t1022 = true then ((laws_toBits.f k l0_0 a0_1).bind fun bt1023 => ((laws_eqBits.f k bt1012.1 bt1012.2 bt1023.1 bt1023.2).bind fun t1027 => (if t1027 = true then ((laws_markBits.f k bt1012.1 bt1012.2 1).bind fun bt1028 => (if bt1028.1 < 0 then (laws_FnExactAddBits.j0 k a1 a2 true l0_0 a0_1 bt1007.1 bt1007.2 bt1017.1 bt1017.2) else ((laws_eqBits.f k bt1017.1 bt1017.2 bt1007.1 bt1007.2).bind fun t1030 => (laws_FnExactAddBits.j0 k a1 a2 (!t1030) l0_0 a0_1 bt1007.1 bt1007.2 bt1017.1 bt1017.2)))) else (none)))) else (none))))))))) = some r := h
 clear h
 replace H := Option.bind_eq_some_iff.mp H
 obtain ⟨t1002, A40, H⟩ := H
 replace H : (if t1002 < 0 then (some true) else ((laws_toBits.f k l0_0 a0_1).bind fun bt1003 => ((spec_AddBits.f k bt1003.1 bt1003.2 a1 a2).bind fun bt1007 => ((laws_toBits.f k l0_0 a0_1).bind fun bt1012 => ((impl_AddBits.f k bt1012.1 bt1012.2 a1 a2).bind fun bt1017 => ((laws_eqBits.f k bt1017.1 bt1017.2 bt1007.1 bt1007.2).bind fun t1022 => (if t1022 = true then ((laws_toBits.f k l0_0 a0_1).bind fun bt1023 => ((laws_eqBits.f k bt1012.1 bt1012.2 bt1023.1 bt1023.2).bind fun t1027 => (if t1027 = true then ((laws_markBits.f k bt1012.1 bt1012.2 1).bind fun bt1028 => (if bt1028.1 < 0 then (laws_FnExactAddBits.j0 k a1 a2 true l0_0 a0_1 bt1007.1 bt1007.2 bt1017.1 bt1017.2) else ((laws_eqBits.f k bt1017.1 bt1017.2 bt1007.1 bt1007.2).bind fun t1030 => (laws_FnExactAddBits.j0 k a1 a2 (!t1030) l0_0 a0_1 bt1007.1 bt1007.2 bt1017.1 bt1017.2)))) else (none)))) else (none)))))))) = some r := H
 have A4 := am_ A40
 clear A40
 by_cases c5 : t1002 < 0
 ·rw [if_pos c5] at H
  have c5b0 : decide (t1002 < 0) = true := decide_eq_true c5
  clear c5
  obtain rfl := Option.some.inj H
  go_enter Try.func4, Try.ntmps4
  go_wp2_with (first | ((with_reducible refine gate_dst (N := 3) rfl ?_); refine box_event ?hg (N := 3) ?hd (cs := #[.slice A0_0 l0_0.length c0_0, .int .i64 a0_1]) (t := 24) ?hr ?_; (case hd => rfl); (case hg => rfl); (case hr => first | (go_simp; done) | (go_simp; rfl)); intro gb1001 hg w6 hbox hb; have n0_ := am_ (below_step bl_ hb); have n1_ := am_ (hbox); have n2_ := am_ (gs_ hg : w.heap.size ≤ gb1001); have n3_ := n2_; clear HB; have HB := n0_; have BK1001 := n1_; have GW1001 := n2_; have GE1001 := n3_; clear n0_ n1_ n2_ n3_; clear hb hbox hg; have hcz7_0 := bc2_0 BK1001; have hcz7_1 := bc2_1 BK1001; have hfz7_0 := bf_ BK1001 0; have hfz7_1 := bf_ BK1001 1) | ((with_reducible refine gate_callee (f := 15) rfl ?_); refine goesL_ (some 17) rfl rfl Try.func15 (by kernel_rfl) rfl #[.agg #[.slice A0_0 l0_0.length c0_0, .int .i64 a0_1], .int .i64 1048576] rfl ag_ ?_; (with_reducible refine (laws_szBits.calls _ _ l0_0 a0_1 1048576 t1002 _ ?side1 ?side2 A4.out).mono ?_); (case side1 => exact cc_ (Kd.C_below HR0_0.out HB.out)); (case side2 => exact HC0_0.out); rintro e w8 ⟨rfl, hb⟩; refine ⟨_, rfl, ?_⟩; have n0_ := am_ (blk_below (g := gb1001) (vk_ BK1001) hb); have n1_ := am_ (below_step bg_ hb); clear BK1001; clear HB; have BK1001 := n0_; have HB := n1_; clear n0_ n1_; (try clear hb); (try clear hb2); (try clear hk); (try clear hi)))
  go_ret
  exact ⟨rf_, bg_⟩
 ·rw [if_neg c5] at H
  have c5b0 : decide (t1002 < 0) = false := decide_eq_false c5
  clear c5
  replace H := Option.bind_eq_some_iff.mp H
  obtain ⟨⟨t1003, t1006⟩, A90, H⟩ := H
  replace H : ((spec_AddBits.f k t1003 t1006 a1 a2).bind fun bt1007 => ((laws_toBits.f k l0_0 a0_1).bind fun bt1012 => ((impl_AddBits.f k bt1012.1 bt1012.2 a1 a2).bind fun bt1017 => ((laws_eqBits.f k bt1017.1 bt1017.2 bt1007.1 bt1007.2).bind fun t1022 => (if t1022 = true then ((laws_toBits.f k l0_0 a0_1).bind fun bt1023 => ((laws_eqBits.f k bt1012.1 bt1012.2 bt1023.1 bt1023.2).bind fun t1027 => (if t1027 = true then ((laws_markBits.f k bt1012.1 bt1012.2 1).bind fun bt1028 => (if bt1028.1 < 0 then (laws_FnExactAddBits.j0 k a1 a2 true l0_0 a0_1 bt1007.1 bt1007.2 bt1017.1 bt1017.2) else ((laws_eqBits.f k bt1017.1 bt1017.2 bt1007.1 bt1007.2).bind fun t1030 => (laws_FnExactAddBits.j0 k a1 a2 (!t1030) l0_0 a0_1 bt1007.1 bt1007.2 bt1017.1 bt1017.2)))) else (none)))) else (none)))))) = some r := H
  have A9 := am_ A90
  clear A90
  replace H := Option.bind_eq_some_iff.mp H
  obtain ⟨⟨t1007, t1010⟩, A100, H⟩ := H
  replace H : ((laws_toBits.f k l0_0 a0_1).bind fun bt1012 => ((impl_AddBits.f k bt1012.1 bt1012.2 a1 a2).bind fun bt1017 => ((laws_eqBits.f k bt1017.1 bt1017.2 t1007 t1010).bind fun t1022 => (if t1022 = true then ((laws_toBits.f k l0_0 a0_1).bind fun bt1023 => ((laws_eqBits.f k bt1012.1 bt1012.2 bt1023.1 bt1023.2).bind fun t1027 => (if t1027 = true then ((laws_markBits.f k bt1012.1 bt1012.2 1).bind fun bt1028 => (if bt1028.1 < 0 then (laws_FnExactAddBits.j0 k a1 a2 true l0_0 a0_1 t1007 t1010 bt1017.1 bt1017.2) else ((laws_eqBits.f k bt1017.1 bt1017.2 t1007 t1010).bind fun t1030 => (laws_FnExactAddBits.j0 k a1 a2 (!t1030) l0_0 a0_1 t1007 t1010 bt1017.1 bt1017.2)))) else (none)))) else (none))))) = some r := H
  have A10 := am_ A100
  clear A100
  replace H := Option.bind_eq_some_iff.mp H
  obtain ⟨⟨t1012, t1015⟩, A110, H⟩ := H
  replace H : ((impl_AddBits.f k t1012 t1015 a1 a2).bind fun bt1017 => ((laws_eqBits.f k bt1017.1 bt1017.2 t1007 t1010).bind fun t1022 => (if t1022 = true then ((laws_toBits.f k l0_0 a0_1).bind fun bt1023 => ((laws_eqBits.f k t1012 t1015 bt1023.1 bt1023.2).bind fun t1027 => (if t1027 = true then ((laws_markBits.f k t1012 t1015 1).bind fun bt1028 => (if bt1028.1 < 0 then (laws_FnExactAddBits.j0 k a1 a2 true l0_0 a0_1 t1007 t1010 bt1017.1 bt1017.2) else ((laws_eqBits.f k bt1017.1 bt1017.2 t1007 t1010).bind fun t1030 => (laws_FnExactAddBits.j0 k a1 a2 (!t1030) l0_0 a0_1 t1007 t1010 bt1017.1 bt1017.2)))) else (none)))) else (none)))) = some r := H
  have A11 := am_ A110
  clear A110
  replace H := Option.bind_eq_some_iff.mp H
  obtain ⟨⟨t1017, t1020⟩, A120, H⟩ := H
  replace H : ((laws_eqBits.f k t1017 t1020 t1007 t1010).bind fun t1022 => (if t1022 = true then ((laws_toBits.f k l0_0 a0_1).bind fun bt1023 => ((laws_eqBits.f k t1012 t1015 bt1023.1 bt1023.2).bind fun t1027 => (if t1027 = true then ((laws_markBits.f k t1012 t1015 1).bind fun bt1028 => (if bt1028.1 < 0 then (laws_FnExactAddBits.j0 k a1 a2 true l0_0 a0_1 t1007 t1010 t1017 t1020) else ((laws_eqBits.f k t1017 t1020 t1007 t1010).bind fun t1030 => (laws_FnExactAddBits.j0 k a1 a2 (!t1030) l0_0 a0_1 t1007 t1010 t1017 t1020)))) else (none)))) else (none))) = some r := H
  have A12 := am_ A120
  clear A120
  replace H := Option.bind_eq_some_iff.mp H
  obtain ⟨t1022, A130, H⟩ := H
  replace H : (if t1022 = true then ((laws_toBits.f k l0_0 a0_1).bind fun bt1023 => ((laws_eqBits.f k t1012 t1015 bt1023.1 bt1023.2).bind fun t1027 => (if t1027 = true then ((laws_markBits.f k t1012 t1015 1).bind fun bt1028 => (if bt1028.1 < 0 then (laws_FnExactAddBits.j0 k a1 a2 true l0_0 a0_1 t1007 t1010 t1017 t1020) else ((laws_eqBits.f k t1017 t1020 t1007 t1010).bind fun t1030 => (laws_FnExactAddBits.j0 k a1 a2 (!t1030) l0_0 a0_1 t1007 t1010 t1017 t1020)))) else (none)))) else (none)) = some r := H
  have A13 := am_ A130
  clear A130
  by_cases c14 : t1022 = true
  ·subst c14
   have H1 : ((laws_toBits.f k l0_0 a0_1).bind fun bt1023 => ((laws_eqBits.f k t1012 t1015 bt1023.1 bt1023.2).bind fun t1027 => (if t1027 = true then ((laws_markBits.f k t1012 t1015 1).bind fun bt1028 => (if bt1028.1 < 0 then (laws_FnExactAddBits.j0 k a1 a2 true l0_0 a0_1 t1007 t1010 t1017 t1020) else ((laws_eqBits.f k t1017 t1020 t1007 t1010).bind fun t1030 => (laws_FnExactAddBits.j0 k a1 a2 (!t1030) l0_0 a0_1 t1007 t1010 t1017 t1020)))) else (none)))) = some r := by rw [if_pos rfl] at H; exact H
   clear H
   have H := H1
   clear H1
   replace H := Option.bind_eq_some_iff.mp H
   obtain ⟨⟨t1023, t1026⟩, A150, H⟩ := H
   replace H : ((laws_eqBits.f k t1012 t1015 t1023 t1026).bind fun t1027 => (if t1027 = true then ((laws_markBits.f k t1012 t1015 1).bind fun bt1028 => (if bt1028.1 < 0 then (laws_FnExactAddBits.j0 k a1 a2 true l0_0 a0_1 t1007 t1010 t1017 t1020) else ((laws_eqBits.f k t1017 t1020 t1007 t1010).bind fun t1030 => (laws_FnExactAddBits.j0 k a1 a2 (!t1030) l0_0 a0_1 t1007 t1010 t1017 t1020)))) else (none))) = some r := H
   have A15 := am_ A150
   clear A150
   replace H := Option.bind_eq_some_iff.mp H
   obtain ⟨t1027, A160, H⟩ := H
   replace H : (if t1027 = true then ((laws_markBits.f k t1012 t1015 1).bind fun bt1028 => (if bt1028.1 < 0 then (laws_FnExactAddBits.j0 k a1 a2 true l0_0 a0_1 t1007 t1010 t1017 t1020) else ((laws_eqBits.f k t1017 t1020 t1007 t1010).bind fun t1030 => (laws_FnExactAddBits.j0 k a1 a2 (!t1030) l0_0 a0_1 t1007 t1010 t1017 t1020)))) else (none)) = some r := H
   have A16 := am_ A160
   clear A160
   by_cases c17 : t1027 = true
   ·subst c17
    have H1 : ((laws_markBits.f k t1012 t1015 1).bind fun bt1028 => (if bt1028.1 < 0 then (laws_FnExactAddBits.j0 k a1 a2 true l0_0 a0_1 t1007 t1010 t1017 t1020) else ((laws_eqBits.f k t1017 t1020 t1007 t1010).bind fun t1030 => (laws_FnExactAddBits.j0 k a1 a2 (!t1030) l0_0 a0_1 t1007 t1010 t1017 t1020)))) = some r := by rw [if_pos rfl] at H; exact H
    clear H
    have H := H1
    clear H1
    replace H := Option.bind_eq_some_iff.mp H
    obtain ⟨⟨t1028, t1029⟩, A180, H⟩ := H
    replace H : (if t1028 < 0 then (laws_FnExactAddBits.j0 k a1 a2 true l0_0 a0_1 t1007 t1010 t1017 t1020) else ((laws_eqBits.f k t1017 t1020 t1007 t1010).bind fun t1030 => (laws_FnExactAddBits.j0 k a1 a2 (!t1030) l0_0 a0_1 t1007 t1010 t1017 t1020))) = some r := H
    have A18 := am_ A180
    clear A180
    have HC19 := am_ H
    clear H
    go_enter Try.func4, Try.ntmps4
    try go_wp2_with (first | ((with_reducible refine gate_dst (N := 3) rfl ?_); refine box_event ?hg (N := 3) ?hd (cs := #[.slice A0_0 l0_0.length c0_0, .int .i64 a0_1]) (t := 24) ?hr ?_; (case hd => rfl); (case hg => rfl); (case hr => first | (go_simp; done) | (go_simp; rfl)); intro gb1001 hg w20 hbox hb; have n0_ := am_ (below_step bl_ hb); have n1_ := am_ (hbox); have n2_ := am_ (gs_ hg : w.heap.size ≤ gb1001); have n3_ := n2_; clear HB; have HB := n0_; have BK1001 := n1_; have GW1001 := n2_; have GE1001 := n3_; clear n0_ n1_ n2_ n3_; clear hb hbox hg; have hcz21_0 := bc2_0 BK1001; have hcz21_1 := bc2_1 BK1001; have hfz21_0 := bf_ BK1001 0; have hfz21_1 := bf_ BK1001 1) | ((with_reducible refine gate_callee (f := 15) rfl ?_); refine goesL_ (some 17) rfl rfl Try.func15 (by kernel_rfl) rfl #[.agg #[.slice A0_0 l0_0.length c0_0, .int .i64 a0_1], .int .i64 1048576] rfl ag_ ?_; (with_reducible refine (laws_szBits.calls _ _ l0_0 a0_1 1048576 t1002 _ ?side1 ?side2 A4.out).mono ?_); (case side1 => exact cc_ (Kd.C_below HR0_0.out HB.out)); (case side2 => exact HC0_0.out); rintro e w22 ⟨rfl, hb⟩; refine ⟨_, rfl, ?_⟩; have n0_ := am_ (blk_below (g := gb1001) (vk_ BK1001) hb); have n1_ := am_ (below_step bg_ hb); clear BK1001; clear HB; have BK1001 := n0_; have HB := n1_; clear n0_ n1_; (try clear hb); (try clear hb2); (try clear hk); (try clear hi); have hcz23_0 := bc2_0 BK1001; have hcz23_1 := bc2_1 BK1001; have hfz23_0 := bf_ BK1001 0; have hfz23_1 := bf_ BK1001 1) | ((with_reducible refine gate_callee (f := 17) rfl ?_); refine goesL_ (some 21) rfl rfl Try.func17 (by kernel_rfl) rfl #[.agg #[.slice A0_0 l0_0.length c0_0, .int .i64 a0_1]] rfl ag_ ?_; (with_reducible refine (laws_toBits.calls k _ _ l0_0 a0_1 t1003 t1006 _ ?side1 ?side2 A9.out).mono ?_); (case side1 => exact cc_ (Kd.C_below HR0_0.out HB.out)); (case side2 => exact HC0_0.out); rintro e w24 ⟨v1004, rfl, ho0, hb⟩; refine ⟨_, rfl, ?_⟩; have n0_ := am_ (Kd.R_lower ho0 (below_size bg_)); have n1_ := am_ (blk_below (g := gb1001) (vk_ BK1001) hb); have n2_ := am_ (below_step bg_ hb); clear BK1001; clear HB; have HO1005 := n0_; have BK1001 := n1_; have HB := n2_; clear n0_ n1_ n2_; (try clear hb); (try clear hb2); (try clear hk); (try clear hi); (try clear ho0); obtain ⟨Ao25, co25, eo25⟩ := Kd.R_slice HO1005.out; subst eo25) | ((with_reducible refine gate_callee (f := 20) rfl ?_); refine goesL_ (some 24) rfl rfl Try.func20 (by kernel_rfl) rfl #[.agg #[.slice Ao25 t1003.length co25, .int .i64 t1006], .int .i64 a1, .int .i64 a2] rfl ag_ ?_; (with_reducible refine (spec_AddBits.calls k _ _ t1003 t1006 a1 a2 t1007 t1010 _ ?side1 ?side2 A10.out).mono ?_); (case side1 => exact cc_ (Kd.R_reads' HO1005.out).2.2); (case side2 => exact (Kd.R_reads' HO1005.out).2.1); rintro e w26 ⟨v1008, rfl, ho0, hb⟩; refine ⟨_, rfl, ?_⟩; have n0_ := am_ (Kd.R_elder' (ro_ HO1005) (Kd.R_base ho0) hb); have n1_ := am_ (Kd.R_lower (Kd.R_new' ho0 (Kd.R_lt (ro_ HO1005))) (below_size bg_)); have n2_ := am_ (blk_below (g := gb1001) (vk_ BK1001) hb); have n3_ := am_ (below_step bg_ hb); clear HO1005; clear BK1001; clear HB; have HO1005 := n0_; have HO1009 := n1_; have BK1001 := n2_; have HB := n3_; clear n0_ n1_ n2_ n3_; (try clear hb); (try clear hb2); (try clear hk); (try clear hi); (try clear ho0)) | ((with_reducible refine gate_dst (N := 8) rfl ?_); refine box_event ?hg (N := 8) ?hd (cs := #[.slice none 0 0, .int .i64 0]) (t := 28) ?hr ?_; (case hd => rfl); (case hg => rfl); (case hr => first | (go_simp; done) | (go_simp; rfl)); intro gb1011 hg w27 hbox hb; have n0_ := am_ (Kd.R_below (ro_ HO1005) hb); have n1_ := am_ (Kd.R_below (ro_ HO1009) hb); have n2_ := am_ (blk_below (g := gb1001) (vk_ BK1001) hb); have n3_ := am_ (below_step bg_ hb); have n4_ := am_ (hbox); have n5_ := am_ (gg_ hg : w.heap.size ≤ gb1011); have n6_ := n5_; have n7_ := am_ ((by rw [hg]; exact Nat.ne_of_lt (blk_lt (g := gb1001) (o := .cells #[.slice A0_0 l0_0.length c0_0, .int .i64 a0_1] 24 (0, 0)) (vk_ BK1001)) : gb1001 ≠ gb1011)); have n8_ := am_ ((by rw [hg]; exact Nat.ne_of_gt (blk_lt (g := gb1001) (o := .cells #[.slice A0_0 l0_0.length c0_0, .int .i64 a0_1] 24 (0, 0)) (vk_ BK1001)) : gb1011 ≠ gb1001)); clear HO1005; clear HO1009; clear BK1001; clear HB; have HO1005 := n0_; have HO1009 := n1_; have BK1001 := n2_; have HB := n3_; have BK1011 := n4_; have GW1011 := n5_; have GE1011 := n6_; have NB1001_1011 := n7_; have NB1011_1001 := n8_; clear n0_ n1_ n2_ n3_ n4_ n5_ n6_ n7_ n8_; clear hb hbox hg; obtain ⟨Ao28, co28, eo28⟩ := Kd.R_slice HO1009.out; subst eo28; have hnb29 := NB1011_1001.out; have hnc29 := NB1001_1011.out; have hcz30_0 := bc2_0 BK1011; have hcz30_1 := bc2_1 BK1011; have hfz30_0 := bf_ BK1011 0; have hfz30_1 := bf_ BK1011 1; have hcz31_0 := bc2_0 BK1001; have hcz31_1 := bc2_1 BK1001; have hfz31_0 := bf_ BK1001 0; have hfz31_1 := bf_ BK1001 1) | ((with_reducible refine gate_callee (f := 17) rfl ?_); refine goesL_ (some 26) rfl rfl Try.func17 (by kernel_rfl) rfl #[.agg #[.slice A0_0 l0_0.length c0_0, .int .i64 a0_1]] rfl ag_ ?_; (with_reducible refine (laws_toBits.calls k _ _ l0_0 a0_1 t1012 t1015 _ ?side1 ?side2 A11.out).mono ?_); (case side1 => exact Kd.C_below HR0_0.out bg_); (case side2 => exact HC0_0.out); rintro e w32 ⟨v1013, rfl, ho0, hb⟩; refine ⟨_, rfl, ?_⟩; have n0_ := am_ (Kd.R_elder' (by (with_reducible repeat (first | apply Kd.R_alloc | apply Kd.R_drewN | apply Kd.R_drew)); exact (Kd.R_mono (Kd.R_far (p := ⟨gb1011, 1, none⟩) (Kd.R_far (p := ⟨gb1011, 0, none⟩) (Kd.R_types HO1005.out BK1011.out (by decide)) (fun _ hk => hk.2) (.slice Ao28 t1007.length co28)) (fun _ hk => hk.2) (.int .i64 t1010)) (fun _ h_ => h_.1))) (Kd.R_base ho0) hb); have n1_ := am_ (Kd.R_elder' (by (with_reducible repeat (first | apply Kd.R_alloc | apply Kd.R_drewN | apply Kd.R_drew)); exact (Kd.R_mono (Kd.R_far (p := ⟨gb1011, 1, none⟩) (Kd.R_far (p := ⟨gb1011, 0, none⟩) (Kd.R_types HO1009.out BK1011.out (by decide)) (fun _ hk => hk.2) (.slice Ao28 t1007.length co28)) (fun _ hk => hk.2) (.int .i64 t1010)) (fun _ h_ => h_.1))) (Kd.R_base ho0) hb); have n2_ := am_ (Kd.R_lower (Kd.R_new' (Kd.R_new' ho0 (Kd.R_lt (by (with_reducible repeat (first | apply Kd.R_alloc | apply Kd.R_drewN | apply Kd.R_drew)); exact (Kd.R_mono (Kd.R_far (p := ⟨gb1011, 1, none⟩) (Kd.R_far (p := ⟨gb1011, 0, none⟩) (Kd.R_types HO1005.out BK1011.out (by decide)) (fun _ hk => hk.2) (.slice Ao28 t1007.length co28)) (fun _ hk => hk.2) (.int .i64 t1010)) (fun _ h_ => h_.1))))) (Kd.R_lt (by (with_reducible repeat (first | apply Kd.R_alloc | apply Kd.R_drewN | apply Kd.R_drew)); exact (Kd.R_mono (Kd.R_far (p := ⟨gb1011, 1, none⟩) (Kd.R_far (p := ⟨gb1011, 0, none⟩) (Kd.R_types HO1009.out BK1011.out (by decide)) (fun _ hk => hk.2) (.slice Ao28 t1007.length co28)) (fun _ hk => hk.2) (.int .i64 t1010)) (fun _ h_ => h_.1))))) (below_size bg_)); have n3_ := am_ (blk_below (g := gb1001) (o := .cells #[.slice A0_0 l0_0.length c0_0, .int .i64 a0_1] 24 (0, 0)) (by (with_reducible repeat (first | refine blk_drewN ?_ _ | refine blk_drew ?_ | refine blk_alloc ?_ _)); refine blk_far ?_ NB1001_1011.out _; (with_reducible repeat (first | refine blk_drewN ?_ _ | refine blk_drew ?_ | refine blk_alloc ?_ _)); refine blk_far ?_ NB1001_1011.out _; (with_reducible repeat (first | refine blk_drewN ?_ _ | refine blk_drew ?_ | refine blk_alloc ?_ _)); exact BK1001.out) hb); have n4_ := am_ (blk_below (g := gb1011) (o := .cells #[.slice Ao28 t1007.length co28, .int .i64 t1010] 28 (0, 0)) (by (with_reducible repeat (first | refine blk_drewN ?_ _ | refine blk_drew ?_ | refine blk_alloc ?_ _)); refine blk_put (cs := #[.slice Ao28 t1007.length co28, .int .i64 0]) ?_ 1 _ rfl; (with_reducible repeat (first | refine blk_drewN ?_ _ | refine blk_drew ?_ | refine blk_alloc ?_ _)); refine blk_put (cs := #[.slice none 0 0, .int .i64 0]) ?_ 0 _ rfl; (with_reducible repeat (first | refine blk_drewN ?_ _ | refine blk_drew ?_ | refine blk_alloc ?_ _)); exact BK1011.out) hb); have n5_ := am_ (below_step bg_ hb); clear HO1005; clear HO1009; clear BK1001; clear BK1011; clear HB; have HO1005 := n0_; have HO1009 := n1_; have HO1014 := n2_; have BK1001 := n3_; have BK1011 := n4_; have HB := n5_; clear n0_ n1_ n2_ n3_ n4_ n5_; (try clear hb); (try clear hb2); (try clear hk); (try clear hi); (try clear ho0)) | ((with_reducible refine gate_dst (N := 9) rfl ?_); refine box_event ?hg (N := 9) ?hd (cs := #[.slice none 0 0, .int .i64 0]) (t := 28) ?hr ?_; (case hd => rfl); (case hg => rfl); (case hr => first | (go_simp; done) | (go_simp; rfl)); intro gb1016 hg w33 hbox hb; have n0_ := am_ (Kd.R_below (ro_ HO1005) hb); have n1_ := am_ (Kd.R_below (ro_ HO1009) hb); have n2_ := am_ (Kd.R_below (ro_ HO1014) hb); have n3_ := am_ (blk_below (g := gb1001) (vk_ BK1001) hb); have n4_ := am_ (blk_below (g := gb1011) (vk_ BK1011) hb); have n5_ := am_ (below_step bg_ hb); have n6_ := am_ (hbox); have n7_ := am_ (gg_ hg : w.heap.size ≤ gb1016); have n8_ := n7_; have n9_ := am_ ((by rw [hg]; exact Nat.ne_of_lt (blk_lt (g := gb1001) (o := .cells #[.slice A0_0 l0_0.length c0_0, .int .i64 a0_1] 24 (0, 0)) (vk_ BK1001)) : gb1001 ≠ gb1016)); have n10_ := am_ ((by rw [hg]; exact Nat.ne_of_gt (blk_lt (g := gb1001) (o := .cells #[.slice A0_0 l0_0.length c0_0, .int .i64 a0_1] 24 (0, 0)) (vk_ BK1001)) : gb1016 ≠ gb1001)); have n11_ := am_ ((by rw [hg]; exact Nat.ne_of_lt (blk_lt (g := gb1011) (o := .cells #[.slice Ao28 t1007.length co28, .int .i64 t1010] 28 (0, 0)) (vk_ BK1011)) : gb1011 ≠ gb1016)); have n12_ := am_ ((by rw [hg]; exact Nat.ne_of_gt (blk_lt (g := gb1011) (o := .cells #[.slice Ao28 t1007.length co28, .int .i64 t1010] 28 (0, 0)) (vk_ BK1011)) : gb1016 ≠ gb1011)); clear HO1005; clear HO1009; clear HO1014; clear BK1001; clear BK1011; clear HB; have HO1005 := n0_; have HO1009 := n1_; have HO1014 := n2_; have BK1001 := n3_; have BK1011 := n4_; have HB := n5_; have BK1016 := n6_; have GW1016 := n7_; have GE1016 := n8_; have NB1001_1016 := n9_; have NB1016_1001 := n10_; have NB1011_1016 := n11_; have NB1016_1011 := n12_; clear n0_ n1_ n2_ n3_ n4_ n5_ n6_ n7_ n8_ n9_ n10_ n11_ n12_; clear hb hbox hg; obtain ⟨Ao34, co34, eo34⟩ := Kd.R_slice HO1014.out; subst eo34; have hnb35 := NB1016_1001.out; have hnc35 := NB1001_1016.out; have hnb36 := NB1016_1011.out; have hnc36 := NB1011_1016.out; have hcz37_0 := bc2_0 BK1016; have hcz37_1 := bc2_1 BK1016; have hfz37_0 := bf_ BK1016 0; have hfz37_1 := bf_ BK1016 1) | ((with_reducible refine gate_callee (f := 21) rfl ?_); refine goesL_ (some 30) rfl rfl Try.func21 (by kernel_rfl) rfl #[.agg #[.slice Ao34 t1012.length co34, .int .i64 t1015], .int .i64 a1, .int .i64 a2] rfl ag_ ?_; (with_reducible refine (impl_AddBits.calls k _ _ t1012 t1015 a1 a2 t1017 t1020 _ ?side1 ?side2 A12.out).mono ?_); (case side1 => refine (Kd.R_reads' (e := 5) (base := w.heap.size) (ok := fun k_ => ((True ∧ some k_ ≠ (.slice Ao25 t1003.length co25 : Value).ownBlock) ∧ some k_ ≠ (.slice Ao28 t1007.length co28 : Value).ownBlock)) (n := t1012.length) (c := co34) ?_).2.2; exact (by (with_reducible repeat (first | apply Kd.R_alloc | apply Kd.R_drewN | apply Kd.R_drew)); exact (Kd.R_mono (Kd.R_far (p := ⟨gb1016, 1, none⟩) (Kd.R_far (p := ⟨gb1016, 0, none⟩) (Kd.R_types HO1014.out BK1016.out (by decide)) (fun _ hk => hk.2) (.slice Ao34 t1012.length co34)) (fun _ hk => hk.2) (.int .i64 t1015)) (fun _ h_ => h_.1)))); (case side2 => exact (Kd.R_reads' HO1014.out).2.1); rintro e w38 ⟨v1018, rfl, ho0, hb⟩; refine ⟨_, rfl, ?_⟩; have n0_ := am_ (Kd.R_elder' (by (with_reducible repeat (first | apply Kd.R_alloc | apply Kd.R_drewN | apply Kd.R_drew)); exact (Kd.R_mono (Kd.R_far (p := ⟨gb1016, 1, none⟩) (Kd.R_far (p := ⟨gb1016, 0, none⟩) (Kd.R_types HO1005.out BK1016.out (by decide)) (fun _ hk => hk.2) (.slice Ao34 t1012.length co34)) (fun _ hk => hk.2) (.int .i64 t1015)) (fun _ h_ => h_.1))) (Kd.R_base ho0) hb); have n1_ := am_ (Kd.R_elder' (by (with_reducible repeat (first | apply Kd.R_alloc | apply Kd.R_drewN | apply Kd.R_drew)); exact (Kd.R_mono (Kd.R_far (p := ⟨gb1016, 1, none⟩) (Kd.R_far (p := ⟨gb1016, 0, none⟩) (Kd.R_types HO1009.out BK1016.out (by decide)) (fun _ hk => hk.2) (.slice Ao34 t1012.length co34)) (fun _ hk => hk.2) (.int .i64 t1015)) (fun _ h_ => h_.1))) (Kd.R_base ho0) hb); have n2_ := am_ (Kd.R_elder' (by (with_reducible repeat (first | apply Kd.R_alloc | apply Kd.R_drewN | apply Kd.R_drew)); exact (Kd.R_mono (Kd.R_far (p := ⟨gb1016, 1, none⟩) (Kd.R_far (p := ⟨gb1016, 0, none⟩) (Kd.R_types HO1014.out BK1016.out (by decide)) (fun _ hk => hk.2) (.slice Ao34 t1012.length co34)) (fun _ hk => hk.2) (.int .i64 t1015)) (fun _ h_ => h_.1))) (Kd.R_base ho0) hb); have n3_ := am_ (Kd.R_lower (Kd.R_new' (Kd.R_new' (Kd.R_new' ho0 (Kd.R_lt (by (with_reducible repeat (first | apply Kd.R_alloc | apply Kd.R_drewN | apply Kd.R_drew)); exact (Kd.R_mono (Kd.R_far (p := ⟨gb1016, 1, none⟩) (Kd.R_far (p := ⟨gb1016, 0, none⟩) (Kd.R_types HO1005.out BK1016.out (by decide)) (fun _ hk => hk.2) (.slice Ao34 t1012.length co34)) (fun _ hk => hk.2) (.int .i64 t1015)) (fun _ h_ => h_.1))))) (Kd.R_lt (by (with_reducible repeat (first | apply Kd.R_alloc | apply Kd.R_drewN | apply Kd.R_drew)); exact (Kd.R_mono (Kd.R_far (p := ⟨gb1016, 1, none⟩) (Kd.R_far (p := ⟨gb1016, 0, none⟩) (Kd.R_types HO1009.out BK1016.out (by decide)) (fun _ hk => hk.2) (.slice Ao34 t1012.length co34)) (fun _ hk => hk.2) (.int .i64 t1015)) (fun _ h_ => h_.1))))) (Kd.R_lt (by (with_reducible repeat (first | apply Kd.R_alloc | apply Kd.R_drewN | apply Kd.R_drew)); exact (Kd.R_mono (Kd.R_far (p := ⟨gb1016, 1, none⟩) (Kd.R_far (p := ⟨gb1016, 0, none⟩) (Kd.R_types HO1014.out BK1016.out (by decide)) (fun _ hk => hk.2) (.slice Ao34 t1012.length co34)) (fun _ hk => hk.2) (.int .i64 t1015)) (fun _ h_ => h_.1))))) (below_size bg_)); have n4_ := am_ (blk_below (g := gb1001) (o := .cells #[.slice A0_0 l0_0.length c0_0, .int .i64 a0_1] 24 (0, 0)) (by (with_reducible repeat (first | refine blk_drewN ?_ _ | refine blk_drew ?_ | refine blk_alloc ?_ _)); refine blk_far ?_ NB1001_1016.out _; (with_reducible repeat (first | refine blk_drewN ?_ _ | refine blk_drew ?_ | refine blk_alloc ?_ _)); refine blk_far ?_ NB1001_1016.out _; (with_reducible repeat (first | refine blk_drewN ?_ _ | refine blk_drew ?_ | refine blk_alloc ?_ _)); exact BK1001.out) hb); have n5_ := am_ (blk_below (g := gb1011) (o := .cells #[.slice Ao28 t1007.length co28, .int .i64 t1010] 28 (0, 0)) (by (with_reducible repeat (first | refine blk_drewN ?_ _ | refine blk_drew ?_ | refine blk_alloc ?_ _)); refine blk_far ?_ NB1011_1016.out _; (with_reducible repeat (first | refine blk_drewN ?_ _ | refine blk_drew ?_ | refine blk_alloc ?_ _)); refine blk_far ?_ NB1011_1016.out _; (with_reducible repeat (first | refine blk_drewN ?_ _ | refine blk_drew ?_ | refine blk_alloc ?_ _)); exact BK1011.out) hb); have n6_ := am_ (blk_below (g := gb1016) (o := .cells #[.slice Ao34 t1012.length co34, .int .i64 t1015] 28 (0, 0)) (by (with_reducible repeat (first | refine blk_drewN ?_ _ | refine blk_drew ?_ | refine blk_alloc ?_ _)); refine blk_put (cs := #[.slice Ao34 t1012.length co34, .int .i64 0]) ?_ 1 _ rfl; (with_reducible repeat (first | refine blk_drewN ?_ _ | refine blk_drew ?_ | refine blk_alloc ?_ _)); refine blk_put (cs := #[.slice none 0 0, .int .i64 0]) ?_ 0 _ rfl; (with_reducible repeat (first | refine blk_drewN ?_ _ | refine blk_drew ?_ | refine blk_alloc ?_ _)); exact BK1016.out) hb); have n7_ := am_ (below_step bg_ hb); clear HO1005; clear HO1009; clear HO1014; clear BK1001; clear BK1011; clear BK1016; clear HB; have HO1005 := n0_; have HO1009 := n1_; have HO1014 := n2_; have HO1019 := n3_; have BK1001 := n4_; have BK1011 := n5_; have BK1016 := n6_; have HB := n7_; clear n0_ n1_ n2_ n3_ n4_ n5_ n6_ n7_; (try clear hb); (try clear hb2); (try clear hk); (try clear hi); (try clear ho0)) | ((with_reducible refine gate_dst (N := 10) rfl ?_); refine box_event ?hg (N := 10) ?hd (cs := #[.slice none 0 0, .int .i64 0]) (t := 28) ?hr ?_; (case hd => rfl); (case hg => rfl); (case hr => first | (go_simp; done) | (go_simp; rfl)); intro gb1021 hg w39 hbox hb; have n0_ := am_ (Kd.R_below (ro_ HO1005) hb); have n1_ := am_ (Kd.R_below (ro_ HO1009) hb); have n2_ := am_ (Kd.R_below (ro_ HO1014) hb); have n3_ := am_ (Kd.R_below (ro_ HO1019) hb); have n4_ := am_ (blk_below (g := gb1001) (vk_ BK1001) hb); have n5_ := am_ (blk_below (g := gb1011) (vk_ BK1011) hb); have n6_ := am_ (blk_below (g := gb1016) (vk_ BK1016) hb); have n7_ := am_ (below_step bg_ hb); have n8_ := am_ (hbox); have n9_ := am_ (gg_ hg : w.heap.size ≤ gb1021); have n10_ := am_ (gg_ hg : w.heap.size ≤ gb1021); have n11_ := am_ ((by rw [hg]; exact Nat.ne_of_lt (blk_lt (g := gb1001) (o := .cells #[.slice A0_0 l0_0.length c0_0, .int .i64 a0_1] 24 (0, 0)) (vk_ BK1001)) : gb1001 ≠ gb1021)); have n12_ := am_ ((by rw [hg]; exact Nat.ne_of_gt (blk_lt (g := gb1001) (o := .cells #[.slice A0_0 l0_0.length c0_0, .int .i64 a0_1] 24 (0, 0)) (vk_ BK1001)) : gb1021 ≠ gb1001)); have n13_ := am_ ((by rw [hg]; exact Nat.ne_of_lt (blk_lt (g := gb1011) (o := .cells #[.slice Ao28 t1007.length co28, .int .i64 t1010] 28 (0, 0)) (vk_ BK1011)) : gb1011 ≠ gb1021)); have n14_ := am_ ((by rw [hg]; exact Nat.ne_of_gt (blk_lt (g := gb1011) (o := .cells #[.slice Ao28 t1007.length co28, .int .i64 t1010] 28 (0, 0)) (vk_ BK1011)) : gb1021 ≠ gb1011)); have n15_ := am_ ((by rw [hg]; exact Nat.ne_of_lt (blk_lt (g := gb1016) (o := .cells #[.slice Ao34 t1012.length co34, .int .i64 t1015] 28 (0, 0)) (vk_ BK1016)) : gb1016 ≠ gb1021)); have n16_ := am_ ((by rw [hg]; exact Nat.ne_of_gt (blk_lt (g := gb1016) (o := .cells #[.slice Ao34 t1012.length co34, .int .i64 t1015] 28 (0, 0)) (vk_ BK1016)) : gb1021 ≠ gb1016)); clear HO1005; clear HO1009; clear HO1014; clear HO1019; clear BK1001; clear BK1011; clear BK1016; clear HB; have HO1005 := n0_; have HO1009 := n1_; have HO1014 := n2_; have HO1019 := n3_; have BK1001 := n4_; have BK1011 := n5_; have BK1016 := n6_; have HB := n7_; have BK1021 := n8_; have GW1021 := n9_; have GE1021 := n10_; have NB1001_1021 := n11_; have NB1021_1001 := n12_; have NB1011_1021 := n13_; have NB1021_1011 := n14_; have NB1016_1021 := n15_; have NB1021_1016 := n16_; clear n0_ n1_ n2_ n3_ n4_ n5_ n6_ n7_ n8_ n9_ n10_ n11_ n12_ n13_ n14_ n15_ n16_; clear hb hbox hg; obtain ⟨Ao40, co40, eo40⟩ := Kd.R_slice HO1019.out; subst eo40; have hnb41 := NB1021_1001.out; have hnc41 := NB1001_1021.out; have hnb42 := NB1021_1011.out; have hnc42 := NB1011_1021.out; have hnb43 := NB1021_1016.out; have hnc43 := NB1016_1021.out; have hcz44_0 := bc2_0 BK1021; have hcz44_1 := bc2_1 BK1021; have hfz44_0 := bf_ BK1021 0; have hfz44_1 := bf_ BK1021 1; have hcz45_0 := bc2_0 BK1011; have hcz45_1 := bc2_1 BK1011; have hfz45_0 := bf_ BK1011 0; have hfz45_1 := bf_ BK1011 1) | ((with_reducible refine gate_callee (f := 19) rfl ?_); refine goesL_ (some 33) rfl rfl Try.func19 (by kernel_rfl) rfl #[.agg #[.slice Ao40 t1017.length co40, .int .i64 t1020], .agg #[.slice Ao28 t1007.length co28, .int .i64 t1010]] rfl ag_ ?_; (with_reducible refine (laws_eqBits.calls k _ _ t1017 t1020 _ _ t1007 t1010 true _ ?side1 ?side2 ?side3 ?side4 A13.out).mono ?_); (case side1 => refine (Kd.R_reads' (e := 5) (base := w.heap.size) (ok := fun k_ => (((True ∧ some k_ ≠ (.slice Ao25 t1003.length co25 : Value).ownBlock) ∧ some k_ ≠ (.slice Ao28 t1007.length co28 : Value).ownBlock) ∧ some k_ ≠ (.slice Ao34 t1012.length co34 : Value).ownBlock)) (n := t1017.length) (c := co40) ?_).2.2; exact (by (with_reducible repeat (first | apply Kd.R_alloc | apply Kd.R_drewN | apply Kd.R_drew)); exact (Kd.R_mono (Kd.R_far (p := ⟨gb1021, 1, none⟩) (Kd.R_far (p := ⟨gb1021, 0, none⟩) (Kd.R_types HO1019.out BK1021.out (by decide)) (fun _ hk => hk.2) (.slice Ao40 t1017.length co40)) (fun _ hk => hk.2) (.int .i64 t1020)) (fun _ h_ => h_.1)))); (case side2 => exact (Kd.R_reads' HO1019.out).2.1); (case side3 => refine (Kd.R_reads' (e := 5) (base := w.heap.size) (ok := fun k_ => (((True ∧ some k_ ≠ (.slice Ao25 t1003.length co25 : Value).ownBlock) ∧ some k_ ≠ (.slice Ao34 t1012.length co34 : Value).ownBlock) ∧ some k_ ≠ (.slice Ao40 t1017.length co40 : Value).ownBlock)) (n := t1007.length) (c := co28) ?_).2.2; exact (by (with_reducible repeat (first | apply Kd.R_alloc | apply Kd.R_drewN | apply Kd.R_drew)); exact (Kd.R_mono (Kd.R_far (p := ⟨gb1021, 1, none⟩) (Kd.R_far (p := ⟨gb1021, 0, none⟩) (Kd.R_types HO1009.out BK1021.out (by decide)) (fun _ hk => hk.2) (.slice Ao40 t1017.length co40)) (fun _ hk => hk.2) (.int .i64 t1020)) (fun _ h_ => h_.1)))); (case side4 => exact (Kd.R_reads' HO1009.out).2.1); rintro e w46 ⟨rfl, hb⟩; refine ⟨_, rfl, ?_⟩; have n0_ := am_ (Kd.R_below (by (with_reducible repeat (first | apply Kd.R_alloc | apply Kd.R_drewN | apply Kd.R_drew)); exact (Kd.R_mono (Kd.R_far (p := ⟨gb1021, 1, none⟩) (Kd.R_far (p := ⟨gb1021, 0, none⟩) (Kd.R_types HO1005.out BK1021.out (by decide)) (fun _ hk => hk.2) (.slice Ao40 t1017.length co40)) (fun _ hk => hk.2) (.int .i64 t1020)) (fun _ h_ => h_.1))) hb); have n1_ := am_ (Kd.R_below (by (with_reducible repeat (first | apply Kd.R_alloc | apply Kd.R_drewN | apply Kd.R_drew)); exact (Kd.R_mono (Kd.R_far (p := ⟨gb1021, 1, none⟩) (Kd.R_far (p := ⟨gb1021, 0, none⟩) (Kd.R_types HO1009.out BK1021.out (by decide)) (fun _ hk => hk.2) (.slice Ao40 t1017.length co40)) (fun _ hk => hk.2) (.int .i64 t1020)) (fun _ h_ => h_.1))) hb); have n2_ := am_ (Kd.R_below (by (with_reducible repeat (first | apply Kd.R_alloc | apply Kd.R_drewN | apply Kd.R_drew)); exact (Kd.R_mono (Kd.R_far (p := ⟨gb1021, 1, none⟩) (Kd.R_far (p := ⟨gb1021, 0, none⟩) (Kd.R_types HO1014.out BK1021.out (by decide)) (fun _ hk => hk.2) (.slice Ao40 t1017.length co40)) (fun _ hk => hk.2) (.int .i64 t1020)) (fun _ h_ => h_.1))) hb); have n3_ := am_ (Kd.R_below (by (with_reducible repeat (first | apply Kd.R_alloc | apply Kd.R_drewN | apply Kd.R_drew)); exact (Kd.R_mono (Kd.R_far (p := ⟨gb1021, 1, none⟩) (Kd.R_far (p := ⟨gb1021, 0, none⟩) (Kd.R_types HO1019.out BK1021.out (by decide)) (fun _ hk => hk.2) (.slice Ao40 t1017.length co40)) (fun _ hk => hk.2) (.int .i64 t1020)) (fun _ h_ => h_.1))) hb); have n4_ := am_ (blk_below (g := gb1001) (o := .cells #[.slice A0_0 l0_0.length c0_0, .int .i64 a0_1] 24 (0, 0)) (by (with_reducible repeat (first | refine blk_drewN ?_ _ | refine blk_drew ?_ | refine blk_alloc ?_ _)); refine blk_far ?_ NB1001_1021.out _; (with_reducible repeat (first | refine blk_drewN ?_ _ | refine blk_drew ?_ | refine blk_alloc ?_ _)); refine blk_far ?_ NB1001_1021.out _; (with_reducible repeat (first | refine blk_drewN ?_ _ | refine blk_drew ?_ | refine blk_alloc ?_ _)); exact BK1001.out) hb); have n5_ := am_ (blk_below (g := gb1011) (o := .cells #[.slice Ao28 t1007.length co28, .int .i64 t1010] 28 (0, 0)) (by (with_reducible repeat (first | refine blk_drewN ?_ _ | refine blk_drew ?_ | refine blk_alloc ?_ _)); refine blk_far ?_ NB1011_1021.out _; (with_reducible repeat (first | refine blk_drewN ?_ _ | refine blk_drew ?_ | refine blk_alloc ?_ _)); refine blk_far ?_ NB1011_1021.out _; (with_reducible repeat (first | refine blk_drewN ?_ _ | refine blk_drew ?_ | refine blk_alloc ?_ _)); exact BK1011.out) hb); have n6_ := am_ (blk_below (g := gb1016) (o := .cells #[.slice Ao34 t1012.length co34, .int .i64 t1015] 28 (0, 0)) (by (with_reducible repeat (first | refine blk_drewN ?_ _ | refine blk_drew ?_ | refine blk_alloc ?_ _)); refine blk_far ?_ NB1016_1021.out _; (with_reducible repeat (first | refine blk_drewN ?_ _ | refine blk_drew ?_ | refine blk_alloc ?_ _)); refine blk_far ?_ NB1016_1021.out _; (with_reducible repeat (first | refine blk_drewN ?_ _ | refine blk_drew ?_ | refine blk_alloc ?_ _)); exact BK1016.out) hb); have n7_ := am_ (blk_below (g := gb1021) (o := .cells #[.slice Ao40 t1017.length co40, .int .i64 t1020] 28 (0, 0)) (by (with_reducible repeat (first | refine blk_drewN ?_ _ | refine blk_drew ?_ | refine blk_alloc ?_ _)); refine blk_put (cs := #[.slice Ao40 t1017.length co40, .int .i64 0]) ?_ 1 _ rfl; (with_reducible repeat (first | refine blk_drewN ?_ _ | refine blk_drew ?_ | refine blk_alloc ?_ _)); refine blk_put (cs := #[.slice none 0 0, .int .i64 0]) ?_ 0 _ rfl; (with_reducible repeat (first | refine blk_drewN ?_ _ | refine blk_drew ?_ | refine blk_alloc ?_ _)); exact BK1021.out) hb); have n8_ := am_ (below_step bg_ hb); clear HO1005; clear HO1009; clear HO1014; clear HO1019; clear BK1001; clear BK1011; clear BK1016; clear BK1021; clear HB; have HO1005 := n0_; have HO1009 := n1_; have HO1014 := n2_; have HO1019 := n3_; have BK1001 := n4_; have BK1011 := n5_; have BK1016 := n6_; have BK1021 := n7_; have HB := n8_; clear n0_ n1_ n2_ n3_ n4_ n5_ n6_ n7_ n8_; (try clear hb); (try clear hb2); (try clear hk); (try clear hi)))
    have n0_ := am_ (Kd.R_drew HO1005.out)
    have n1_ := am_ (Kd.R_drew HO1009.out)
    have n2_ := am_ (Kd.R_drew HO1014.out)
    have n3_ := am_ (Kd.R_drew HO1019.out)
    have n4_ := am_ (blk_drew BK1001.out)
    have n5_ := am_ (blk_drew BK1011.out)
    have n6_ := am_ (blk_drew BK1016.out)
    have n7_ := am_ (blk_drew BK1021.out)
    have n8_ := am_ (below_drew1 HB.out)
    clear HO1005
    clear HO1009
    clear HO1014
    clear HO1019
    clear BK1001
    clear BK1011
    clear BK1016
    clear BK1021
    clear HB
    have HO1005 := n0_
    have HO1009 := n1_
    have HO1014 := n2_
    have HO1019 := n3_
    have BK1001 := n4_
    have BK1011 := n5_
    have BK1016 := n6_
    have BK1021 := n7_
    have HB := n8_
    clear n0_ n1_ n2_ n3_ n4_ n5_ n6_ n7_ n8_
    refine start_ (n := 5) (S := fun w' => w'.cell? ⟨gb1016, 0, none⟩ = some (.slice Ao34 t1012.length co34) ∧ w'.cell? ⟨gb1016, 1, none⟩ = some (.int .i64 t1015) ∧ w'.cell? ⟨gb1001, 0, none⟩ = some (.slice A0_0 l0_0.length c0_0) ∧ w'.cell? ⟨gb1001, 1, none⟩ = some (.int .i64 a0_1)) (ds := []) (bz 5 0) (by kernel_rfl) rfl rfl ⟨(blk_cell BK1016.out 0).trans rfl, (blk_cell BK1016.out 1).trans rfl, (blk_cell BK1001.out 0).trans rfl, (blk_cell BK1001.out 1).trans rfl⟩ (fun hHeld => ?_)
    generalize w46.drew = w47 at HO1005 HO1009 HO1014 HO1019 BK1001 BK1011 BK1016 BK1021 HB hHeld ⊢
    refine take_ (i := 0) (N := some 35) (v := ?_) (a' := ?_) (bz 5 1) rfl rfl (by kernel_rfl) (fun _ _ _ h => h) (Or.inl ⟨by rfl, ?_⟩) hHeld ?_ ?_
    rotate_left
    ·rintro w' ⟨s0, s1, s2, s3⟩
     go_simp
     with_reducible rfl
    rotate_left
    ·simp only [Act.put, List.setIfInBounds_toArray, List.set_cons_zero, List.set_cons_succ, i64_w, i32_w]
     rfl
    refine take_ (i := 1) (N := some 36) (v := ?_) (a' := ?_) (bz 5 3) rfl rfl (by kernel_rfl) (fun _ _ _ h => h) (Or.inl ⟨by rfl, ?_⟩) hHeld ?_ ?_
    rotate_left
    ·rintro w' ⟨s0, s1, s2, s3⟩
     go_simp
     with_reducible rfl
    rotate_left
    ·simp only [Act.put, List.setIfInBounds_toArray, List.set_cons_zero, List.set_cons_succ, i64_w, i32_w]
     rfl
    refine one_ (i := 2) (N := some 37) (bz 5 7) rfl rfl (by kernel_rfl) (by decide) (fun K hK => ?_)
    refine goes_ Try.func17 (by kernel_rfl) rfl #[.agg #[.slice A0_0 l0_0.length c0_0, .int .i64 a0_1]] (by rfl) rfl rfl ag_ ?_
    with_reducible refine (laws_toBits.calls k _ _ l0_0 a0_1 t1023 t1026 _ ?side1 ?side2 A15.out).mono ?_
    (case side1 => exact cc_ (Kd.C_below HR0_0.out HB.out))
    (case side2 => exact HC0_0.out)
    rintro e w48 ⟨v1024, rfl, ho0, hb⟩
    refine ⟨_, rfl, ?_⟩
    have n0_ := am_ (Kd.R_elder' (ro_ HO1005) (Kd.R_base ho0) hb)
    have n1_ := am_ (Kd.R_elder' (ro_ HO1009) (Kd.R_base ho0) hb)
    have n2_ := am_ (Kd.R_elder' (ro_ HO1014) (Kd.R_base ho0) hb)
    have n3_ := am_ (Kd.R_elder' (ro_ HO1019) (Kd.R_base ho0) hb)
    have n4_ := am_ (Kd.R_lower (Kd.R_new' (Kd.R_new' (Kd.R_new' (Kd.R_new' ho0 (Kd.R_lt (ro_ HO1005))) (Kd.R_lt (ro_ HO1009))) (Kd.R_lt (ro_ HO1014))) (Kd.R_lt (ro_ HO1019))) (below_size bg_))
    have n5_ := am_ (blk_below (g := gb1001) (vk_ BK1001) hb)
    have n6_ := am_ (blk_below (g := gb1011) (vk_ BK1011) hb)
    have n7_ := am_ (blk_below (g := gb1016) (vk_ BK1016) hb)
    have n8_ := am_ (blk_below (g := gb1021) (vk_ BK1021) hb)
    have n9_ := am_ (below_step bg_ hb)
    clear HO1005
    clear HO1009
    clear HO1014
    clear HO1019
    clear BK1001
    clear BK1011
    clear BK1016
    clear BK1021
    clear HB
    have HO1005 := n0_
    have HO1009 := n1_
    have HO1014 := n2_
    have HO1019 := n3_
    have HO1025 := n4_
    have BK1001 := n5_
    have BK1011 := n6_
    have BK1016 := n7_
    have BK1021 := n8_
    have HB := n9_
    clear n0_ n1_ n2_ n3_ n4_ n5_ n6_ n7_ n8_ n9_
    (try clear hb)
    (try clear hb2)
    (try clear hk)
    (try clear hi)
    (try clear ho0)
    obtain ⟨Ao49, co49, eo49⟩ := Kd.R_slice HO1025.out
    (first | subst eo49 | (injection eo49 with f1_ f2_ f3_; have f4_ := f1_.symm; have f5_ := f3_.symm; clear f1_ f2_ f3_; subst f4_; subst f5_))
    refine hK.out _ _ ⟨(blk_cell BK1016.out 0).trans rfl, (blk_cell BK1016.out 1).trans rfl, (blk_cell BK1001.out 0).trans rfl, (blk_cell BK1001.out 1).trans rfl⟩ (fun hHeld => ?_)
    clear hK K
    refine norm_ (a' := ?_) ?_ ?_
    rotate_left
    ·show Act.put _ (some 37) _ = _
     simp only [Act.put, List.setIfInBounds_toArray, List.set_cons_zero, List.set_cons_succ, i64_w, i32_w]
     rfl
    refine one_ (i := 3) (N := some 38) (bz 5 15) rfl rfl (by kernel_rfl) (by decide) (fun K hK => ?_)
    refine goes_ Try.func19 (by kernel_rfl) rfl #[.agg #[.slice Ao34 t1012.length co34, .int .i64 t1015], .agg #[.slice Ao49 t1023.length co49, .int .i64 t1026]] (by rfl) rfl rfl ag_ ?_
    with_reducible refine (laws_eqBits.calls k _ _ t1012 t1015 _ _ t1023 t1026 true _ ?side1 ?side2 ?side3 ?side4 A16.out).mono ?_
    (case side1 => exact cc_ (Kd.R_reads' HO1014.out).2.2)
    (case side2 => exact (Kd.R_reads' HO1014.out).2.1)
    (case side3 => exact cc_ (Kd.R_reads' HO1025.out).2.2)
    (case side4 => exact (Kd.R_reads' HO1025.out).2.1)
    rintro e w50 ⟨rfl, hb⟩
    refine ⟨_, rfl, ?_⟩
    have n0_ := am_ (Kd.R_below (ro_ HO1005) hb)
    have n1_ := am_ (Kd.R_below (ro_ HO1009) hb)
    have n2_ := am_ (Kd.R_below (ro_ HO1014) hb)
    have n3_ := am_ (Kd.R_below (ro_ HO1019) hb)
    have n4_ := am_ (Kd.R_below (ro_ HO1025) hb)
    have n5_ := am_ (blk_below (g := gb1001) (vk_ BK1001) hb)
    have n6_ := am_ (blk_below (g := gb1011) (vk_ BK1011) hb)
    have n7_ := am_ (blk_below (g := gb1016) (vk_ BK1016) hb)
    have n8_ := am_ (blk_below (g := gb1021) (vk_ BK1021) hb)
    have n9_ := am_ (below_step bg_ hb)
    clear HO1005
    clear HO1009
    clear HO1014
    clear HO1019
    clear HO1025
    clear BK1001
    clear BK1011
    clear BK1016
    clear BK1021
    clear HB
    have HO1005 := n0_
    have HO1009 := n1_
    have HO1014 := n2_
    have HO1019 := n3_
    have HO1025 := n4_
    have BK1001 := n5_
    have BK1011 := n6_
    have BK1016 := n7_
    have BK1021 := n8_
    have HB := n9_
    clear n0_ n1_ n2_ n3_ n4_ n5_ n6_ n7_ n8_ n9_
    (try clear hb)
    (try clear hb2)
    (try clear hk)
    (try clear hi)
    refine hK.out _ _ ⟨(blk_cell BK1016.out 0).trans rfl, (blk_cell BK1016.out 1).trans rfl, (blk_cell BK1001.out 0).trans rfl, (blk_cell BK1001.out 1).trans rfl⟩ (fun hHeld => ?_)
    clear hK K
    refine norm_ (a' := ?_) ?_ ?_
    rotate_left
    ·show Act.put _ (some 38) _ = _
     simp only [Act.put, List.setIfInBounds_toArray, List.set_cons_zero, List.set_cons_succ, i64_w, i32_w]
     rfl
    refine pure_ (i := 4) (N := some 39) (v := ?_) (a' := ?_) (bz 5 31) rfl rfl (by kernel_rfl) (fun _ _ _ h => h) (Or.inl ⟨by rfl, ?_⟩) ?_ ?_
    rotate_left
    ·intro w'
     go_simp
     with_reducible rfl
    rotate_left
    ·simp only [Act.put, List.setIfInBounds_toArray, List.set_cons_zero, List.set_cons_succ, i64_w, i32_w]
     rfl
    refine done_ (by kernel_rfl) ?_
    have hcz51_0 := bc2_0 BK1016
    have hcz51_1 := bc2_1 BK1016
    have hfz51_0 := bf_ BK1016 0
    have hfz51_1 := bf_ BK1016 1
    go_upto_region 14 with (first | ((with_reducible refine gate_callee (f := 22) rfl ?_); refine goesL_ (some 42) rfl rfl Try.func22 (by kernel_rfl) rfl #[.agg #[.slice Ao34 t1012.length co34, .int .i64 t1015], .int .i64 1] rfl ag_ ?_; (with_reducible refine (laws_markBits.calls k (fun k_ => some k_ = (.slice Ao34 t1012.length co34 : Value).ownBlock) (.slice Ao34 t1012.length co34) t1012 t1015 1 t1028 t1029 w _ ?side1 ?side2 A18.out).mono ?_); (case side1 => repeat (first | (with_reducible first | exact HB.out | apply below_alloc | apply pw_below_drewN | apply below_drew1 | refine below_set ?_ GE1001.out | refine below_set ?_ GE1011.out | refine below_set ?_ GE1016.out | refine below_set ?_ GE1021.out) | exact HB.out)); (case side2 => exact Kd.R_tight rfl HO1014.out); rintro e w52 ⟨rfl, hy0, hb, hkp⟩; refine ⟨_, rfl, ?_⟩; have n0_ := am_ (blk_kept (vk_ BK1001) hkp (fun hs_ => (fun e_ => (Kd.R_ne HO1014.out BK1001.out (by decide)) e_) hs_)); have n1_ := am_ (Kd.R_mono (ok' := fun k_ => some k_ ≠ (.slice Ao28 t1007.length co28 : Value).ownBlock ∧ some k_ ≠ (.slice Ao34 t1012.length co34 : Value).ownBlock ∧ some k_ ≠ (.slice Ao40 t1017.length co40 : Value).ownBlock ∧ some k_ ≠ (.slice Ao49 t1023.length co49 : Value).ownBlock) (Kd.R_keptB (HO1005.out) hkp (fun k_ hk_ hs_ => (hk_.1.1.2) hs_)) (fun k_ hk_ => ⟨hk_.1.1.1.1.2, hk_.1.1.1.2, hk_.1.1.2, hk_.1.2⟩)); have n2_ := am_ (Kd.R_mono (ok' := fun k_ => some k_ ≠ (.slice Ao25 t1003.length co25 : Value).ownBlock ∧ some k_ ≠ (.slice Ao34 t1012.length co34 : Value).ownBlock ∧ some k_ ≠ (.slice Ao40 t1017.length co40 : Value).ownBlock ∧ some k_ ≠ (.slice Ao49 t1023.length co49 : Value).ownBlock) (Kd.R_keptB (HO1009.out) hkp (fun k_ hk_ hs_ => (hk_.1.1.2) hs_)) (fun k_ hk_ => ⟨hk_.1.1.1.1.2, hk_.1.1.1.2, hk_.1.1.2, hk_.1.2⟩)); have n3_ := am_ (blk_kept (vk_ BK1011) hkp (fun hs_ => (fun e_ => (Kd.R_ne HO1014.out BK1011.out (by decide)) e_) hs_)); have n4_ := am_ (Kd.R_reok rfl hy0 (fun k_ e_ => HO1014.out.1 k_ e_)); have n5_ := am_ (blk_kept (vk_ BK1016) hkp (fun hs_ => (fun e_ => (Kd.R_ne HO1014.out BK1016.out (by decide)) e_) hs_)); have n6_ := am_ (Kd.R_mono (ok' := fun k_ => some k_ ≠ (.slice Ao25 t1003.length co25 : Value).ownBlock ∧ some k_ ≠ (.slice Ao28 t1007.length co28 : Value).ownBlock ∧ some k_ ≠ (.slice Ao34 t1012.length co34 : Value).ownBlock ∧ some k_ ≠ (.slice Ao49 t1023.length co49 : Value).ownBlock) (Kd.R_keptB (HO1019.out) hkp (fun k_ hk_ hs_ => (hk_.1.2) hs_)) (fun k_ hk_ => ⟨hk_.1.1.1.1.2, hk_.1.1.1.2, hk_.1.1.2, hk_.1.2⟩)); have n7_ := am_ (blk_kept (vk_ BK1021) hkp (fun hs_ => (fun e_ => (Kd.R_ne HO1014.out BK1021.out (by decide)) e_) hs_)); have n8_ := am_ (Kd.R_mono (ok' := fun k_ => some k_ ≠ (.slice Ao25 t1003.length co25 : Value).ownBlock ∧ some k_ ≠ (.slice Ao28 t1007.length co28 : Value).ownBlock ∧ some k_ ≠ (.slice Ao34 t1012.length co34 : Value).ownBlock ∧ some k_ ≠ (.slice Ao40 t1017.length co40 : Value).ownBlock) (Kd.R_keptB (HO1025.out) hkp (fun k_ hk_ hs_ => (hk_.1.2) hs_)) (fun k_ hk_ => ⟨hk_.1.1.1.1.2, hk_.1.1.1.2, hk_.1.1.2, hk_.1.2⟩)); have n9_ := am_ (hb); clear BK1001; clear HO1005; clear HO1009; clear BK1011; clear HO1014; clear BK1016; clear HO1019; clear BK1021; clear HO1025; clear HB; have BK1001 := n0_; have HO1005 := n1_; have HO1009 := n2_; have BK1011 := n3_; have HO1014 := n4_; have BK1016 := n5_; have HO1019 := n6_; have BK1021 := n7_; have HO1025 := n8_; have HB := n9_; clear n0_ n1_ n2_ n3_ n4_ n5_ n6_ n7_ n8_ n9_; (try clear hb); (try clear hkp); (try clear hy0)))
    (try simp only [Act.put, List.setIfInBounds_toArray, List.set_cons_zero, List.set_cons_succ])
    go_cut [50] (fun v50 wc => ∃ (kq : Nat) (x50_18 : Bool), v50 = .bool x50_18 ∧ Aside0 (laws_FnExactAddBits.j0 kq a1 a2 x50_18 l0_0 a0_1 t1007 t1010 t1017 t1020 = some r) ∧ Aside0 (kq ≤ k) ∧ Aside0 (Kd.R (Kd.int .u8) 5 wc w.heap.size (fun k_ => some k_ ≠ ((.slice Ao34 t1012.length co34) : Value).ownBlock ∧ some k_ ≠ ((.slice Ao40 t1017.length co40) : Value).ownBlock) (.slice Ao28 t1007.length co28) t1007) ∧ Aside0 (Kd.R (Kd.int .u8) 5 wc w.heap.size (fun k_ => some k_ ≠ ((.slice Ao28 t1007.length co28) : Value).ownBlock ∧ some k_ ≠ ((.slice Ao40 t1017.length co40) : Value).ownBlock) (.slice Ao34 t1012.length co34) t1029) ∧ Aside0 (Kd.R (Kd.int .u8) 5 wc w.heap.size (fun k_ => some k_ ≠ ((.slice Ao28 t1007.length co28) : Value).ownBlock ∧ some k_ ≠ ((.slice Ao34 t1012.length co34) : Value).ownBlock) (.slice Ao40 t1017.length co40) t1017) ∧ Aside0 (wc.heap[gb1001]? = some (.cells #[(.slice A0_0 l0_0.length c0_0), .int .i64 a0_1] 24 (0, 0))) ∧ Aside0 (wc.heap[gb1011]? = some (.cells #[(.slice Ao28 t1007.length co28), .int .i64 t1010] 28 (0, 0))) ∧ Aside0 (wc.heap[gb1016]? = some (.cells #[(.slice Ao34 t1012.length co34), .int .i64 t1015] 28 (0, 0))) ∧ Aside0 (wc.heap[gb1021]? = some (.cells #[(.slice Ao40 t1017.length co40), .int .i64 t1020] 28 (0, 0))) ∧ Aside0 (Below w.heap.size w wc))
    case first =>
     have H := HC19.out
     clear HC19
     by_cases c53 : t1028 < 0
     ·rw [if_pos c53] at H
      have c53b0 : decide (t1028 < 0) = true := decide_eq_true c53
      clear c53
      (first | rw [c53b0] | (simp only [i64_w, i32_w]; rw [c53b0]) | skip)
      have H' := am_ H
      clear H
      go_wp2
      go_meet
      case rel => exact ⟨_, (true), rs_, H', ⟨by first | omega | exact Nat.le_refl _⟩, ⟨by (with_reducible repeat (first | apply Kd.R_alloc | apply Kd.R_drewN | apply Kd.R_drew)); exact Kd.R_mono HO1009.out (fun _ hk => ⟨hk.2.1, hk.2.2.1⟩)⟩, ⟨by (with_reducible repeat (first | apply Kd.R_alloc | apply Kd.R_drewN | apply Kd.R_drew)); exact Kd.R_mono HO1014.out (fun _ hk => ⟨hk.1.1.2, hk.1.2⟩)⟩, ⟨by (with_reducible repeat (first | apply Kd.R_alloc | apply Kd.R_drewN | apply Kd.R_drew)); exact Kd.R_mono HO1019.out (fun _ hk => ⟨hk.2.1, hk.2.2.1⟩)⟩, ⟨vk_ BK1001⟩, ⟨vk_ BK1011⟩, ⟨vk_ BK1016⟩, ⟨vk_ BK1021⟩, ⟨bg_⟩⟩
     ·rw [if_neg c53] at H
      have c53b0 : decide (t1028 < 0) = false := decide_eq_false c53
      clear c53
      (first | rw [c53b0] | (simp only [i64_w, i32_w]; rw [c53b0]) | skip)
      replace H := Option.bind_eq_some_iff.mp H
      obtain ⟨t1030, A540, H⟩ := H
      replace H : (laws_FnExactAddBits.j0 k a1 a2 (!t1030) l0_0 a0_1 t1007 t1010 t1017 t1020) = some r := H
      have A54 := am_ A540
      clear A540
      have H' := am_ H
      clear H
      have hnb55 := NB1021_1001.out
      have hnc55 := NB1001_1021.out
      have hnb56 := NB1021_1011.out
      have hnc56 := NB1011_1021.out
      have hnb57 := NB1021_1016.out
      have hnc57 := NB1016_1021.out
      have hcz58_0 := bc2_0 BK1021
      have hcz58_1 := bc2_1 BK1021
      have hfz58_0 := bf_ BK1021 0
      have hfz58_1 := bf_ BK1021 1
      have hnb59 := NB1011_1001.out
      have hnc59 := NB1001_1011.out
      have hnb60 := NB1011_1016.out
      have hnc60 := NB1016_1011.out
      have hcz61_0 := bc2_0 BK1011
      have hcz61_1 := bc2_1 BK1011
      have hfz61_0 := bf_ BK1011 0
      have hfz61_1 := bf_ BK1011 1
      go_wp2_with (first | (go_at_call 19; (with_reducible refine (laws_eqBits.calls k _ _ t1017 t1020 _ _ t1007 t1010 t1030 _ ?side1 ?side2 ?side3 ?side4 A54.out).mono ?_); (case side1 => exact cc_ (Kd.R_reads' HO1019.out).2.2); (case side2 => exact (Kd.R_reads' HO1019.out).2.1); (case side3 => exact cc_ (Kd.R_reads' HO1009.out).2.2); (case side4 => exact (Kd.R_reads' HO1009.out).2.1); rintro e w62 ⟨rfl, hb⟩; have n0_ := am_ (Kd.R_below (ro_ HO1005) hb); have n1_ := am_ (Kd.R_below (ro_ HO1009) hb); have n2_ := am_ (Kd.R_below (ro_ HO1014) hb); have n3_ := am_ (Kd.R_below (ro_ HO1019) hb); have n4_ := am_ (Kd.R_below (ro_ HO1025) hb); have n5_ := am_ (blk_below (g := gb1001) (vk_ BK1001) hb); have n6_ := am_ (blk_below (g := gb1011) (vk_ BK1011) hb); have n7_ := am_ (blk_below (g := gb1016) (vk_ BK1016) hb); have n8_ := am_ (blk_below (g := gb1021) (vk_ BK1021) hb); have n9_ := am_ (below_step bg_ hb); clear HO1005; clear HO1009; clear HO1014; clear HO1019; clear HO1025; clear BK1001; clear BK1011; clear BK1016; clear BK1021; clear HB; have HO1005 := n0_; have HO1009 := n1_; have HO1014 := n2_; have HO1019 := n3_; have HO1025 := n4_; have BK1001 := n5_; have BK1011 := n6_; have BK1016 := n7_; have BK1021 := n8_; have HB := n9_; clear n0_ n1_ n2_ n3_ n4_ n5_ n6_ n7_ n8_ n9_; (try clear hb); (try clear hb2); (try clear hk); (try clear hi)))
      go_meet
      case rel => exact ⟨_, (!t1030), rs_, H', ⟨by first | omega | exact Nat.le_refl _⟩, ⟨by (with_reducible repeat (first | apply Kd.R_alloc | apply Kd.R_drewN | apply Kd.R_drew)); exact Kd.R_mono HO1009.out (fun _ hk => ⟨hk.2.1, hk.2.2.1⟩)⟩, ⟨by (with_reducible repeat (first | apply Kd.R_alloc | apply Kd.R_drewN | apply Kd.R_drew)); exact Kd.R_mono HO1014.out (fun _ hk => ⟨hk.1.1.2, hk.1.2⟩)⟩, ⟨by (with_reducible repeat (first | apply Kd.R_alloc | apply Kd.R_drewN | apply Kd.R_drew)); exact Kd.R_mono HO1019.out (fun _ hk => ⟨hk.2.1, hk.2.2.1⟩)⟩, ⟨vk_ BK1001⟩, ⟨vk_ BK1011⟩, ⟨vk_ BK1016⟩, ⟨vk_ BK1021⟩, ⟨bg_⟩⟩
    case rest =>
     clear HC19
     try clear c1
     try clear c2
     try clear p2
     try clear c3
     try clear c4
     try clear c5
     try clear c5b0
     try clear c6
     try clear c14
     try clear c15
     try clear c17
     try clear c19
     try clear c20
     try clear c21
     try clear c22
     try clear c29
     try clear c35
     try clear c36
     try clear c41
     try clear c42
     try clear c43
     try clear c53
     try clear c53b0
     try clear c55
     try clear c56
     try clear c57
     try clear c59
     try clear c60
     try clear hcz21_0
     try clear hcz21_1
     try clear hcz23_0
     try clear hcz23_1
     try clear hcz30_0
     try clear hcz30_1
     try clear hcz31_0
     try clear hcz31_1
     try clear hcz37_0
     try clear hcz37_1
     try clear hcz44_0
     try clear hcz44_1
     try clear hcz45_0
     try clear hcz45_1
     try clear hcz51_0
     try clear hcz51_1
     try clear hcz58_0
     try clear hcz58_1
     try clear hcz61_0
     try clear hcz61_1
     try clear hcz7_0
     try clear hcz7_1
     try clear hfz21_0
     try clear hfz21_1
     try clear hfz23_0
     try clear hfz23_1
     try clear hfz30_0
     try clear hfz30_1
     try clear hfz31_0
     try clear hfz31_1
     try clear hfz37_0
     try clear hfz37_1
     try clear hfz44_0
     try clear hfz44_1
     try clear hfz45_0
     try clear hfz45_1
     try clear hfz51_0
     try clear hfz51_1
     try clear hfz58_0
     try clear hfz58_1
     try clear hfz61_0
     try clear hfz61_1
     try clear hfz7_0
     try clear hfz7_1
     obtain ⟨kq, x50_18, rfl, HA, HJ18, HO_1012000, HO_1017000, HO_1022000, BK1001, BK1011, BK1016, BK1021, HB⟩ := hcut
     have hl1017000_18 := (Kd.R_reads' HO_1017000.out).1
     rw [hl1017000_18] at HO_1017000
     (try simp only [hl1017000_18])
     (try simp only [hl1017000_18] at BK1001)
     (try simp only [hl1017000_18] at BK1011)
     (try simp only [hl1017000_18] at BK1016)
     (try simp only [hl1017000_18] at BK1021)
     (try simp only [hl1017000_18] at HO_1012000)
     (try simp only [hl1017000_18] at HO_1022000)
     cases kq with
     | zero => exact absurd HA.out (by simp [laws_FnExactAddBits.j0])
     | succ kj18 =>
      have H := HA.out
      clear HA
      simp only [laws_FnExactAddBits.j0] at H
      by_cases c63 : x50_18 = true
      ·subst c63
       have H1 : (none) = some r := by rw [if_pos rfl] at H; exact H
       clear H
       have H := H1
       clear H1
       exact absurd H (by simp)
      ·replace c63 := Bool.eq_false_iff.mpr c63
       subst c63
       have H1 : ((laws_markBits.f kj18 t1017 t1020 1).bind fun bt1031 => ((laws_heldBits.f kj18 bt1031.2 t1020 1).bind fun t1033 => (if t1033 < 0 then (none) else (if t1033 = bt1031.1 then ((laws_toBits.f kj18 l0_0 a0_1).bind fun bt1034 => ((impl_AddBits.f kj18 bt1034.1 bt1034.2 a1 a2).bind fun bt1038 => ((laws_eqBits.f kj18 bt1038.1 bt1038.2 t1007 t1010).bind fun t1043 => (if t1043 = true then ((laws_heldBits.f kj18 bt1031.2 t1020 1).bind fun t1044 => (if t1044 < 0 then (none) else (if t1044 = bt1031.1 then (some true) else (none)))) else (none))))) else (none))))) = some r := by rw [if_neg (show ¬ (false = true) by decide)] at H; exact H
       clear H
       have H := H1
       clear H1
       replace H := Option.bind_eq_some_iff.mp H
       obtain ⟨⟨t1031, t1032⟩, A640, H⟩ := H
       replace H : ((laws_heldBits.f kj18 t1032 t1020 1).bind fun t1033 => (if t1033 < 0 then (none) else (if t1033 = t1031 then ((laws_toBits.f kj18 l0_0 a0_1).bind fun bt1034 => ((impl_AddBits.f kj18 bt1034.1 bt1034.2 a1 a2).bind fun bt1038 => ((laws_eqBits.f kj18 bt1038.1 bt1038.2 t1007 t1010).bind fun t1043 => (if t1043 = true then ((laws_heldBits.f kj18 t1032 t1020 1).bind fun t1044 => (if t1044 < 0 then (none) else (if t1044 = t1031 then (some true) else (none)))) else (none))))) else (none)))) = some r := H
       have A64 := am_ A640
       clear A640
       replace H := Option.bind_eq_some_iff.mp H
       obtain ⟨t1033, A650, H⟩ := H
       replace H : (if t1033 < 0 then (none) else (if t1033 = t1031 then ((laws_toBits.f kj18 l0_0 a0_1).bind fun bt1034 => ((impl_AddBits.f kj18 bt1034.1 bt1034.2 a1 a2).bind fun bt1038 => ((laws_eqBits.f kj18 bt1038.1 bt1038.2 t1007 t1010).bind fun t1043 => (if t1043 = true then ((laws_heldBits.f kj18 t1032 t1020 1).bind fun t1044 => (if t1044 < 0 then (none) else (if t1044 = t1031 then (some true) else (none)))) else (none))))) else (none))) = some r := H
       have A65 := am_ A650
       clear A650
       by_cases c66 : t1033 < 0
       ·rw [if_pos c66] at H
        exact absurd H (by simp)
       ·rw [if_neg c66] at H
        have c66b0 : decide (t1033 < 0) = false := decide_eq_false c66
        clear c66
        by_cases c67 : t1033 = t1031
        ·rw [if_pos c67] at H
         have c67b0 : (t1033 == t1031) = true := beq_iff_eq.mpr c67
         have c67b1 : (t1033 != t1031) = false := bne_eq_false_iff_eq.mpr c67
         clear c67
         replace H := Option.bind_eq_some_iff.mp H
         obtain ⟨⟨t1034, t1037⟩, A680, H⟩ := H
         replace H : ((impl_AddBits.f kj18 t1034 t1037 a1 a2).bind fun bt1038 => ((laws_eqBits.f kj18 bt1038.1 bt1038.2 t1007 t1010).bind fun t1043 => (if t1043 = true then ((laws_heldBits.f kj18 t1032 t1020 1).bind fun t1044 => (if t1044 < 0 then (none) else (if t1044 = t1031 then (some true) else (none)))) else (none)))) = some r := H
         have A68 := am_ A680
         clear A680
         replace H := Option.bind_eq_some_iff.mp H
         obtain ⟨⟨t1038, t1041⟩, A690, H⟩ := H
         replace H : ((laws_eqBits.f kj18 t1038 t1041 t1007 t1010).bind fun t1043 => (if t1043 = true then ((laws_heldBits.f kj18 t1032 t1020 1).bind fun t1044 => (if t1044 < 0 then (none) else (if t1044 = t1031 then (some true) else (none)))) else (none))) = some r := H
         have A69 := am_ A690
         clear A690
         replace H := Option.bind_eq_some_iff.mp H
         obtain ⟨t1043, A700, H⟩ := H
         replace H : (if t1043 = true then ((laws_heldBits.f kj18 t1032 t1020 1).bind fun t1044 => (if t1044 < 0 then (none) else (if t1044 = t1031 then (some true) else (none)))) else (none)) = some r := H
         have A70 := am_ A700
         clear A700
         by_cases c71 : t1043 = true
         ·subst c71
          have H1 : ((laws_heldBits.f kj18 t1032 t1020 1).bind fun t1044 => (if t1044 < 0 then (none) else (if t1044 = t1031 then (some true) else (none)))) = some r := by rw [if_pos rfl] at H; exact H
          clear H
          have H := H1
          clear H1
          replace H := Option.bind_eq_some_iff.mp H
          obtain ⟨t1044, A720, H⟩ := H
          replace H : (if t1044 < 0 then (none) else (if t1044 = t1031 then (some true) else (none))) = some r := H
          have A72 := am_ A720
          clear A720
          by_cases c73 : t1044 < 0
          ·rw [if_pos c73] at H
           exact absurd H (by simp)
          ·rw [if_neg c73] at H
           have c73b0 : decide (t1044 < 0) = false := decide_eq_false c73
           clear c73
           by_cases c74 : t1044 = t1031
           ·rw [if_pos c74] at H
            have c74b0 : (t1044 == t1031) = true := beq_iff_eq.mpr c74
            have c74b1 : (t1044 != t1031) = false := bne_eq_false_iff_eq.mpr c74
            clear c74
            obtain rfl := Option.some.inj H
            have hnb75 := NB1021_1001.out
            have hnc75 := NB1001_1021.out
            have hnb76 := NB1021_1011.out
            have hnc76 := NB1011_1021.out
            have hnb77 := NB1021_1016.out
            have hnc77 := NB1016_1021.out
            have hcz78_0 := bc2_0 BK1021
            have hcz78_1 := bc2_1 BK1021
            have hfz78_0 := bf_ BK1021 0
            have hfz78_1 := bf_ BK1021 1
            go_wp2_with (first | ((with_reducible refine gate_callee (f := 22) rfl ?_); refine goesL_ (some 53) rfl rfl Try.func22 (by kernel_rfl) rfl #[.agg #[.slice Ao40 t1017.length co40, .int .i64 t1020], .int .i64 1] rfl ag_ ?_; (with_reducible refine (laws_markBits.calls kj18 (fun k_ => some k_ = (.slice Ao40 t1017.length co40 : Value).ownBlock) (.slice Ao40 t1017.length co40) t1017 t1020 1 t1031 t1032 w _ ?side1 ?side2 A64.out).mono ?_); (case side1 => repeat (first | (with_reducible first | exact HB.out | apply below_alloc | apply pw_below_drewN | apply below_drew1 | refine below_set ?_ GE1001.out | refine below_set ?_ GE1011.out | refine below_set ?_ GE1016.out | refine below_set ?_ GE1021.out) | exact HB.out)); (case side2 => exact Kd.R_tight rfl HO_1022000.out); rintro e w79 ⟨rfl, hy0, hb, hkp⟩; refine ⟨_, rfl, ?_⟩; have n0_ := am_ (Kd.R_mono (ok' := fun k_ => some k_ ≠ (.slice Ao34 t1029.length co34 : Value).ownBlock ∧ some k_ ≠ (.slice Ao40 t1017.length co40 : Value).ownBlock) (Kd.R_keptB (HO_1012000.out) hkp (fun k_ hk_ hs_ => (hk_.2) hs_)) (fun k_ hk_ => ⟨hk_.1.1, hk_.1.2⟩)); have n1_ := am_ (Kd.R_mono (ok' := fun k_ => some k_ ≠ (.slice Ao28 t1007.length co28 : Value).ownBlock ∧ some k_ ≠ (.slice Ao40 t1017.length co40 : Value).ownBlock) (Kd.R_keptB (HO_1017000.out) hkp (fun k_ hk_ hs_ => (hk_.2) hs_)) (fun k_ hk_ => ⟨hk_.1.1, hk_.1.2⟩)); have n2_ := am_ (Kd.R_reok rfl hy0 (fun k_ e_ => HO_1022000.out.1 k_ e_)); have n3_ := am_ (blk_kept (vk_ BK1001) hkp (fun hs_ => (fun e_ => (Kd.R_ne HO_1022000.out BK1001.out (by decide)) e_) hs_)); have n4_ := am_ (blk_kept (vk_ BK1011) hkp (fun hs_ => (fun e_ => (Kd.R_ne HO_1022000.out BK1011.out (by decide)) e_) hs_)); have n5_ := am_ (blk_kept (vk_ BK1016) hkp (fun hs_ => (fun e_ => (Kd.R_ne HO_1022000.out BK1016.out (by decide)) e_) hs_)); have n6_ := am_ (blk_kept (vk_ BK1021) hkp (fun hs_ => (fun e_ => (Kd.R_ne HO_1022000.out BK1021.out (by decide)) e_) hs_)); have n7_ := am_ (hb); clear HO_1012000; clear HO_1017000; clear HO_1022000; clear BK1001; clear BK1011; clear BK1016; clear BK1021; clear HB; have HO_1012000 := n0_; have HO_1017000 := n1_; have HO_1022000 := n2_; have BK1001 := n3_; have BK1011 := n4_; have BK1016 := n5_; have BK1021 := n6_; have HB := n7_; clear n0_ n1_ n2_ n3_ n4_ n5_ n6_ n7_; (try clear hb); (try clear hkp); (try clear hy0); have hcz80_0 := bc2_0 BK1021; have hcz80_1 := bc2_1 BK1021; have hfz80_0 := bf_ BK1021 0; have hfz80_1 := bf_ BK1021 1) | ((with_reducible refine gate_callee (f := 23) rfl ?_); refine goesL_ (some 56) rfl rfl Try.func23 (by kernel_rfl) rfl #[.agg #[.slice Ao40 t1032.length co40, .int .i64 t1020], .int .i64 1] rfl (by (try simp only [List.map_toArray, List.map_cons, List.map_nil]); first | done | (rw [show t1032.length = t1017.length from (Kd.R_reads' HO_1022000.out).1.symm] <;> rfl) | rfl | (simp only [List.length_drop, List.length_take]; rfl)) ?_; (with_reducible refine (laws_heldBits.calls kj18 _ _ t1032 t1020 1 t1033 _ ?side1 ?side2 A65.out).mono ?_); (case side1 => exact cc_ (Kd.R_reads' HO_1022000.out).2.2); (case side2 => rw [show t1032.length = t1017.length from (Kd.R_reads' HO_1022000.out).1.symm]; exact (Kd.R_reads' HO_1022000.out).2.1); rintro e w81 ⟨rfl, hb⟩; refine ⟨_, rfl, ?_⟩; have n0_ := am_ (Kd.R_below (ro_ HO_1012000) hb); have n1_ := am_ (Kd.R_below (ro_ HO_1017000) hb); have n2_ := am_ (Kd.R_below (ro_ HO_1022000) hb); have n3_ := am_ (blk_below (g := gb1001) (vk_ BK1001) hb); have n4_ := am_ (blk_below (g := gb1011) (vk_ BK1011) hb); have n5_ := am_ (blk_below (g := gb1016) (vk_ BK1016) hb); have n6_ := am_ (blk_below (g := gb1021) (vk_ BK1021) hb); have n7_ := am_ (below_step bg_ hb); clear HO_1012000; clear HO_1017000; clear HO_1022000; clear BK1001; clear BK1011; clear BK1016; clear BK1021; clear HB; have HO_1012000 := n0_; have HO_1017000 := n1_; have HO_1022000 := n2_; have BK1001 := n3_; have BK1011 := n4_; have BK1016 := n5_; have BK1021 := n6_; have HB := n7_; clear n0_ n1_ n2_ n3_ n4_ n5_ n6_ n7_; (try clear hb); (try clear hb2); (try clear hk); (try clear hi); have hnb82 := NB1001_1011.out; have hnc82 := NB1011_1001.out; have hnb83 := NB1001_1016.out; have hnc83 := NB1016_1001.out; have hcz84_0 := bc2_0 BK1001; have hcz84_1 := bc2_1 BK1001; have hfz84_0 := bf_ BK1001 0; have hfz84_1 := bf_ BK1001 1) | ((with_reducible refine gate_callee (f := 17) rfl ?_); refine goesL_ (some 63) rfl rfl Try.func17 (by kernel_rfl) rfl #[.agg #[.slice A0_0 l0_0.length c0_0, .int .i64 a0_1]] rfl ag_ ?_; (with_reducible refine (laws_toBits.calls kj18 _ _ l0_0 a0_1 t1034 t1037 _ ?side1 ?side2 A68.out).mono ?_); (case side1 => exact cc_ (Kd.C_below HR0_0.out HB.out)); (case side2 => exact HC0_0.out); rintro e w85 ⟨v1035, rfl, ho0, hb⟩; refine ⟨_, rfl, ?_⟩; have n0_ := am_ (Kd.R_elder' (ro_ HO_1012000) (Kd.R_base ho0) hb); have n1_ := am_ (Kd.R_elder' (ro_ HO_1017000) (Kd.R_base ho0) hb); have n2_ := am_ (Kd.R_elder' (ro_ HO_1022000) (Kd.R_base ho0) hb); have n3_ := am_ (Kd.R_lower (Kd.R_new' (Kd.R_new' (Kd.R_new' ho0 (Kd.R_lt (ro_ HO_1012000))) (Kd.R_lt (ro_ HO_1017000))) (Kd.R_lt (ro_ HO_1022000))) (below_size bg_)); have n4_ := am_ (blk_below (g := gb1001) (vk_ BK1001) hb); have n5_ := am_ (blk_below (g := gb1011) (vk_ BK1011) hb); have n6_ := am_ (blk_below (g := gb1016) (vk_ BK1016) hb); have n7_ := am_ (blk_below (g := gb1021) (vk_ BK1021) hb); have n8_ := am_ (below_step bg_ hb); clear HO_1012000; clear HO_1017000; clear HO_1022000; clear BK1001; clear BK1011; clear BK1016; clear BK1021; clear HB; have HO_1012000 := n0_; have HO_1017000 := n1_; have HO_1022000 := n2_; have HO1036 := n3_; have BK1001 := n4_; have BK1011 := n5_; have BK1016 := n6_; have BK1021 := n7_; have HB := n8_; clear n0_ n1_ n2_ n3_ n4_ n5_ n6_ n7_ n8_; (try clear hb); (try clear hb2); (try clear hk); (try clear hi); (try clear ho0); obtain ⟨Ao86, co86, eo86⟩ := Kd.R_slice HO1036.out; subst eo86) | ((with_reducible refine gate_callee (f := 21) rfl ?_); refine goesL_ (some 66) rfl rfl Try.func21 (by kernel_rfl) rfl #[.agg #[.slice Ao86 t1034.length co86, .int .i64 t1037], .int .i64 a1, .int .i64 a2] rfl ag_ ?_; (with_reducible refine (impl_AddBits.calls kj18 _ _ t1034 t1037 a1 a2 t1038 t1041 _ ?side1 ?side2 A69.out).mono ?_); (case side1 => exact cc_ (Kd.R_reads' HO1036.out).2.2); (case side2 => exact (Kd.R_reads' HO1036.out).2.1); rintro e w87 ⟨v1039, rfl, ho0, hb⟩; refine ⟨_, rfl, ?_⟩; have n0_ := am_ (Kd.R_elder' (ro_ HO_1012000) (Kd.R_base ho0) hb); have n1_ := am_ (Kd.R_elder' (ro_ HO_1017000) (Kd.R_base ho0) hb); have n2_ := am_ (Kd.R_elder' (ro_ HO_1022000) (Kd.R_base ho0) hb); have n3_ := am_ (Kd.R_elder' (ro_ HO1036) (Kd.R_base ho0) hb); have n4_ := am_ (Kd.R_lower (Kd.R_new' (Kd.R_new' (Kd.R_new' (Kd.R_new' ho0 (Kd.R_lt (ro_ HO_1012000))) (Kd.R_lt (ro_ HO_1017000))) (Kd.R_lt (ro_ HO_1022000))) (Kd.R_lt (ro_ HO1036))) (below_size bg_)); have n5_ := am_ (blk_below (g := gb1001) (vk_ BK1001) hb); have n6_ := am_ (blk_below (g := gb1011) (vk_ BK1011) hb); have n7_ := am_ (blk_below (g := gb1016) (vk_ BK1016) hb); have n8_ := am_ (blk_below (g := gb1021) (vk_ BK1021) hb); have n9_ := am_ (below_step bg_ hb); clear HO_1012000; clear HO_1017000; clear HO_1022000; clear HO1036; clear BK1001; clear BK1011; clear BK1016; clear BK1021; clear HB; have HO_1012000 := n0_; have HO_1017000 := n1_; have HO_1022000 := n2_; have HO1036 := n3_; have HO1040 := n4_; have BK1001 := n5_; have BK1011 := n6_; have BK1016 := n7_; have BK1021 := n8_; have HB := n9_; clear n0_ n1_ n2_ n3_ n4_ n5_ n6_ n7_ n8_ n9_; (try clear hb); (try clear hb2); (try clear hk); (try clear hi); (try clear ho0)) | ((with_reducible refine gate_dst (N := 14) rfl ?_); refine box_event ?hg (N := 14) ?hd (cs := #[.slice none 0 0, .int .i64 0]) (t := 28) ?hr ?_; (case hd => rfl); (case hg => rfl); (case hr => first | (go_simp; done) | (go_simp; rfl)); intro gb1042 hg w88 hbox hb; have n0_ := am_ (Kd.R_below (ro_ HO_1012000) hb); have n1_ := am_ (Kd.R_below (ro_ HO_1017000) hb); have n2_ := am_ (Kd.R_below (ro_ HO_1022000) hb); have n3_ := am_ (Kd.R_below (ro_ HO1036) hb); have n4_ := am_ (Kd.R_below (ro_ HO1040) hb); have n5_ := am_ (blk_below (g := gb1001) (vk_ BK1001) hb); have n6_ := am_ (blk_below (g := gb1011) (vk_ BK1011) hb); have n7_ := am_ (blk_below (g := gb1016) (vk_ BK1016) hb); have n8_ := am_ (blk_below (g := gb1021) (vk_ BK1021) hb); have n9_ := am_ (below_step bg_ hb); have n10_ := am_ (hbox); have n11_ := am_ (gg_ hg : w.heap.size ≤ gb1042); have n12_ := am_ (gg_ hg : w.heap.size ≤ gb1042); have n13_ := am_ ((by rw [hg]; exact Nat.ne_of_lt (blk_lt (g := gb1001) (o := .cells #[.slice A0_0 l0_0.length c0_0, .int .i64 a0_1] 24 (0, 0)) (vk_ BK1001)) : gb1001 ≠ gb1042)); have n14_ := am_ ((by rw [hg]; exact Nat.ne_of_gt (blk_lt (g := gb1001) (o := .cells #[.slice A0_0 l0_0.length c0_0, .int .i64 a0_1] 24 (0, 0)) (vk_ BK1001)) : gb1042 ≠ gb1001)); have n15_ := am_ ((by rw [hg]; exact Nat.ne_of_lt (blk_lt (g := gb1011) (o := .cells #[.slice Ao28 t1007.length co28, .int .i64 t1010] 28 (0, 0)) (vk_ BK1011)) : gb1011 ≠ gb1042)); have n16_ := am_ ((by rw [hg]; exact Nat.ne_of_gt (blk_lt (g := gb1011) (o := .cells #[.slice Ao28 t1007.length co28, .int .i64 t1010] 28 (0, 0)) (vk_ BK1011)) : gb1042 ≠ gb1011)); have n17_ := am_ ((by rw [hg]; exact Nat.ne_of_lt (blk_lt (g := gb1016) (o := .cells #[.slice Ao34 t1029.length co34, .int .i64 t1015] 28 (0, 0)) (vk_ BK1016)) : gb1016 ≠ gb1042)); have n18_ := am_ ((by rw [hg]; exact Nat.ne_of_gt (blk_lt (g := gb1016) (o := .cells #[.slice Ao34 t1029.length co34, .int .i64 t1015] 28 (0, 0)) (vk_ BK1016)) : gb1042 ≠ gb1016)); have n19_ := am_ ((by rw [hg]; exact Nat.ne_of_lt (blk_lt (g := gb1021) (o := .cells #[.slice Ao40 t1017.length co40, .int .i64 t1020] 28 (0, 0)) (vk_ BK1021)) : gb1021 ≠ gb1042)); have n20_ := am_ ((by rw [hg]; exact Nat.ne_of_gt (blk_lt (g := gb1021) (o := .cells #[.slice Ao40 t1017.length co40, .int .i64 t1020] 28 (0, 0)) (vk_ BK1021)) : gb1042 ≠ gb1021)); clear HO_1012000; clear HO_1017000; clear HO_1022000; clear HO1036; clear HO1040; clear BK1001; clear BK1011; clear BK1016; clear BK1021; clear HB; have HO_1012000 := n0_; have HO_1017000 := n1_; have HO_1022000 := n2_; have HO1036 := n3_; have HO1040 := n4_; have BK1001 := n5_; have BK1011 := n6_; have BK1016 := n7_; have BK1021 := n8_; have HB := n9_; have BK1042 := n10_; have GW1042 := n11_; have GE1042 := n12_; have NB1001_1042 := n13_; have NB1042_1001 := n14_; have NB1011_1042 := n15_; have NB1042_1011 := n16_; have NB1016_1042 := n17_; have NB1042_1016 := n18_; have NB1021_1042 := n19_; have NB1042_1021 := n20_; clear n0_ n1_ n2_ n3_ n4_ n5_ n6_ n7_ n8_ n9_ n10_ n11_ n12_ n13_ n14_ n15_ n16_ n17_ n18_ n19_ n20_; clear hb hbox hg; obtain ⟨Ao89, co89, eo89⟩ := Kd.R_slice HO1040.out; subst eo89; have hnb90 := NB1042_1001.out; have hnc90 := NB1001_1042.out; have hnb91 := NB1042_1011.out; have hnc91 := NB1011_1042.out; have hnb92 := NB1042_1016.out; have hnc92 := NB1016_1042.out; have hnb93 := NB1042_1021.out; have hnc93 := NB1021_1042.out; have hcz94_0 := bc2_0 BK1042; have hcz94_1 := bc2_1 BK1042; have hfz94_0 := bf_ BK1042 0; have hfz94_1 := bf_ BK1042 1; have hnb95 := NB1011_1016.out; have hnc95 := NB1016_1011.out; have hcz96_0 := bc2_0 BK1011; have hcz96_1 := bc2_1 BK1011; have hfz96_0 := bf_ BK1011 0; have hfz96_1 := bf_ BK1011 1) | ((with_reducible refine gate_callee (f := 19) rfl ?_); refine goesL_ (some 69) rfl rfl Try.func19 (by kernel_rfl) rfl #[.agg #[.slice Ao89 t1038.length co89, .int .i64 t1041], .agg #[.slice Ao28 t1007.length co28, .int .i64 t1010]] rfl ag_ ?_; (with_reducible refine (laws_eqBits.calls kj18 _ _ t1038 t1041 _ _ t1007 t1010 true _ ?side1 ?side2 ?side3 ?side4 A70.out).mono ?_); (case side1 => refine (Kd.R_reads' (e := 5) (base := w.heap.size) (ok := fun k_ => ((((True ∧ some k_ ≠ (.slice Ao28 t1007.length co28 : Value).ownBlock) ∧ some k_ ≠ (.slice Ao34 t1029.length co34 : Value).ownBlock) ∧ some k_ ≠ (.slice Ao40 t1017.length co40 : Value).ownBlock) ∧ some k_ ≠ (.slice Ao86 t1034.length co86 : Value).ownBlock)) (n := t1038.length) (c := co89) ?_).2.2; exact (by (with_reducible repeat (first | apply Kd.R_alloc | apply Kd.R_drewN | apply Kd.R_drew)); exact (Kd.R_mono (Kd.R_far (p := ⟨gb1042, 1, none⟩) (Kd.R_far (p := ⟨gb1042, 0, none⟩) (Kd.R_types HO1040.out BK1042.out (by decide)) (fun _ hk => hk.2) (.slice Ao89 t1038.length co89)) (fun _ hk => hk.2) (.int .i64 t1041)) (fun _ h_ => h_.1)))); (case side2 => exact (Kd.R_reads' HO1040.out).2.1); (case side3 => refine (Kd.R_reads' (e := 5) (base := w.heap.size) (ok := fun k_ => (((some k_ ≠ (.slice Ao34 t1029.length co34 : Value).ownBlock ∧ some k_ ≠ (.slice Ao40 t1017.length co40 : Value).ownBlock) ∧ some k_ ≠ (.slice Ao86 t1034.length co86 : Value).ownBlock) ∧ some k_ ≠ (.slice Ao89 t1038.length co89 : Value).ownBlock)) (n := t1007.length) (c := co28) ?_).2.2; exact (by (with_reducible repeat (first | apply Kd.R_alloc | apply Kd.R_drewN | apply Kd.R_drew)); exact (Kd.R_mono (Kd.R_far (p := ⟨gb1042, 1, none⟩) (Kd.R_far (p := ⟨gb1042, 0, none⟩) (Kd.R_types HO_1012000.out BK1042.out (by decide)) (fun _ hk => hk.2) (.slice Ao89 t1038.length co89)) (fun _ hk => hk.2) (.int .i64 t1041)) (fun _ h_ => h_.1)))); (case side4 => exact (Kd.R_reads' HO_1012000.out).2.1); rintro e w97 ⟨rfl, hb⟩; refine ⟨_, rfl, ?_⟩; have n0_ := am_ (Kd.R_below (by (with_reducible repeat (first | apply Kd.R_alloc | apply Kd.R_drewN | apply Kd.R_drew)); exact (Kd.R_mono (Kd.R_far (p := ⟨gb1042, 1, none⟩) (Kd.R_far (p := ⟨gb1042, 0, none⟩) (Kd.R_types HO_1012000.out BK1042.out (by decide)) (fun _ hk => hk.2) (.slice Ao89 t1038.length co89)) (fun _ hk => hk.2) (.int .i64 t1041)) (fun _ h_ => h_.1))) hb); have n1_ := am_ (Kd.R_below (by (with_reducible repeat (first | apply Kd.R_alloc | apply Kd.R_drewN | apply Kd.R_drew)); exact (Kd.R_mono (Kd.R_far (p := ⟨gb1042, 1, none⟩) (Kd.R_far (p := ⟨gb1042, 0, none⟩) (Kd.R_types HO_1017000.out BK1042.out (by decide)) (fun _ hk => hk.2) (.slice Ao89 t1038.length co89)) (fun _ hk => hk.2) (.int .i64 t1041)) (fun _ h_ => h_.1))) hb); have n2_ := am_ (Kd.R_below (by (with_reducible repeat (first | apply Kd.R_alloc | apply Kd.R_drewN | apply Kd.R_drew)); exact (Kd.R_mono (Kd.R_far (p := ⟨gb1042, 1, none⟩) (Kd.R_far (p := ⟨gb1042, 0, none⟩) (Kd.R_types HO_1022000.out BK1042.out (by decide)) (fun _ hk => hk.2) (.slice Ao89 t1038.length co89)) (fun _ hk => hk.2) (.int .i64 t1041)) (fun _ h_ => h_.1))) hb); have n3_ := am_ (Kd.R_below (by (with_reducible repeat (first | apply Kd.R_alloc | apply Kd.R_drewN | apply Kd.R_drew)); exact (Kd.R_mono (Kd.R_far (p := ⟨gb1042, 1, none⟩) (Kd.R_far (p := ⟨gb1042, 0, none⟩) (Kd.R_types HO1036.out BK1042.out (by decide)) (fun _ hk => hk.2) (.slice Ao89 t1038.length co89)) (fun _ hk => hk.2) (.int .i64 t1041)) (fun _ h_ => h_.1))) hb); have n4_ := am_ (Kd.R_below (by (with_reducible repeat (first | apply Kd.R_alloc | apply Kd.R_drewN | apply Kd.R_drew)); exact (Kd.R_mono (Kd.R_far (p := ⟨gb1042, 1, none⟩) (Kd.R_far (p := ⟨gb1042, 0, none⟩) (Kd.R_types HO1040.out BK1042.out (by decide)) (fun _ hk => hk.2) (.slice Ao89 t1038.length co89)) (fun _ hk => hk.2) (.int .i64 t1041)) (fun _ h_ => h_.1))) hb); have n5_ := am_ (blk_below (g := gb1001) (o := .cells #[.slice A0_0 l0_0.length c0_0, .int .i64 a0_1] 24 (0, 0)) (by (with_reducible repeat (first | refine blk_drewN ?_ _ | refine blk_drew ?_ | refine blk_alloc ?_ _)); refine blk_far ?_ NB1001_1042.out _; (with_reducible repeat (first | refine blk_drewN ?_ _ | refine blk_drew ?_ | refine blk_alloc ?_ _)); refine blk_far ?_ NB1001_1042.out _; (with_reducible repeat (first | refine blk_drewN ?_ _ | refine blk_drew ?_ | refine blk_alloc ?_ _)); exact BK1001.out) hb); have n6_ := am_ (blk_below (g := gb1011) (o := .cells #[.slice Ao28 t1007.length co28, .int .i64 t1010] 28 (0, 0)) (by (with_reducible repeat (first | refine blk_drewN ?_ _ | refine blk_drew ?_ | refine blk_alloc ?_ _)); refine blk_far ?_ NB1011_1042.out _; (with_reducible repeat (first | refine blk_drewN ?_ _ | refine blk_drew ?_ | refine blk_alloc ?_ _)); refine blk_far ?_ NB1011_1042.out _; (with_reducible repeat (first | refine blk_drewN ?_ _ | refine blk_drew ?_ | refine blk_alloc ?_ _)); exact BK1011.out) hb); have n7_ := am_ (blk_below (g := gb1016) (o := .cells #[.slice Ao34 t1029.length co34, .int .i64 t1015] 28 (0, 0)) (by (with_reducible repeat (first | refine blk_drewN ?_ _ | refine blk_drew ?_ | refine blk_alloc ?_ _)); refine blk_far ?_ NB1016_1042.out _; (with_reducible repeat (first | refine blk_drewN ?_ _ | refine blk_drew ?_ | refine blk_alloc ?_ _)); refine blk_far ?_ NB1016_1042.out _; (with_reducible repeat (first | refine blk_drewN ?_ _ | refine blk_drew ?_ | refine blk_alloc ?_ _)); exact BK1016.out) hb); have n8_ := am_ (blk_below (g := gb1021) (o := .cells #[.slice Ao40 t1017.length co40, .int .i64 t1020] 28 (0, 0)) (by (with_reducible repeat (first | refine blk_drewN ?_ _ | refine blk_drew ?_ | refine blk_alloc ?_ _)); refine blk_far ?_ NB1021_1042.out _; (with_reducible repeat (first | refine blk_drewN ?_ _ | refine blk_drew ?_ | refine blk_alloc ?_ _)); refine blk_far ?_ NB1021_1042.out _; (with_reducible repeat (first | refine blk_drewN ?_ _ | refine blk_drew ?_ | refine blk_alloc ?_ _)); exact BK1021.out) hb); have n9_ := am_ (blk_below (g := gb1042) (o := .cells #[.slice Ao89 t1038.length co89, .int .i64 t1041] 28 (0, 0)) (by (with_reducible repeat (first | refine blk_drewN ?_ _ | refine blk_drew ?_ | refine blk_alloc ?_ _)); refine blk_put (cs := #[.slice Ao89 t1038.length co89, .int .i64 0]) ?_ 1 _ rfl; (with_reducible repeat (first | refine blk_drewN ?_ _ | refine blk_drew ?_ | refine blk_alloc ?_ _)); refine blk_put (cs := #[.slice none 0 0, .int .i64 0]) ?_ 0 _ rfl; (with_reducible repeat (first | refine blk_drewN ?_ _ | refine blk_drew ?_ | refine blk_alloc ?_ _)); exact BK1042.out) hb); have n10_ := am_ (below_step bg_ hb); clear HO_1012000; clear HO_1017000; clear HO_1022000; clear HO1036; clear HO1040; clear BK1001; clear BK1011; clear BK1016; clear BK1021; clear BK1042; clear HB; have HO_1012000 := n0_; have HO_1017000 := n1_; have HO_1022000 := n2_; have HO1036 := n3_; have HO1040 := n4_; have BK1001 := n5_; have BK1011 := n6_; have BK1016 := n7_; have BK1021 := n8_; have BK1042 := n9_; have HB := n10_; clear n0_ n1_ n2_ n3_ n4_ n5_ n6_ n7_ n8_ n9_ n10_; (try clear hb); (try clear hb2); (try clear hk); (try clear hi); have hcz98_0 := bc2_0 BK1021; have hcz98_1 := bc2_1 BK1021; have hfz98_0 := bf_ BK1021 0; have hfz98_1 := bf_ BK1021 1) | ((with_reducible refine gate_callee (f := 23) rfl ?_); refine goesL_ (some 73) rfl rfl Try.func23 (by kernel_rfl) rfl #[.agg #[.slice Ao40 t1032.length co40, .int .i64 t1020], .int .i64 1] rfl (by (try simp only [List.map_toArray, List.map_cons, List.map_nil]); first | done | (rw [show t1032.length = t1017.length from (Kd.R_reads' HO_1022000.out).1.symm] <;> rfl) | rfl | (simp only [List.length_drop, List.length_take]; rfl)) ?_; (with_reducible refine (laws_heldBits.calls kj18 _ _ t1032 t1020 1 t1044 _ ?side1 ?side2 A72.out).mono ?_); (case side1 => exact cc_ (Kd.R_reads' HO_1022000.out).2.2); (case side2 => rw [show t1032.length = t1017.length from (Kd.R_reads' HO_1022000.out).1.symm]; exact (Kd.R_reads' HO_1022000.out).2.1); rintro e w99 ⟨rfl, hb⟩; refine ⟨_, rfl, ?_⟩; have n0_ := am_ (Kd.R_below (ro_ HO_1012000) hb); have n1_ := am_ (Kd.R_below (ro_ HO_1017000) hb); have n2_ := am_ (Kd.R_below (ro_ HO_1022000) hb); have n3_ := am_ (Kd.R_below (ro_ HO1036) hb); have n4_ := am_ (Kd.R_below (ro_ HO1040) hb); have n5_ := am_ (blk_below (g := gb1001) (vk_ BK1001) hb); have n6_ := am_ (blk_below (g := gb1011) (vk_ BK1011) hb); have n7_ := am_ (blk_below (g := gb1016) (vk_ BK1016) hb); have n8_ := am_ (blk_below (g := gb1021) (vk_ BK1021) hb); have n9_ := am_ (blk_below (g := gb1042) (vk_ BK1042) hb); have n10_ := am_ (below_step bg_ hb); clear HO_1012000; clear HO_1017000; clear HO_1022000; clear HO1036; clear HO1040; clear BK1001; clear BK1011; clear BK1016; clear BK1021; clear BK1042; clear HB; have HO_1012000 := n0_; have HO_1017000 := n1_; have HO_1022000 := n2_; have HO1036 := n3_; have HO1040 := n4_; have BK1001 := n5_; have BK1011 := n6_; have BK1016 := n7_; have BK1021 := n8_; have BK1042 := n9_; have HB := n10_; clear n0_ n1_ n2_ n3_ n4_ n5_ n6_ n7_ n8_ n9_ n10_; (try clear hb); (try clear hb2); (try clear hk); (try clear hi)))
            go_ret
            exact ⟨rf_, bg_⟩
           ·rw [if_neg c74] at H
            exact absurd H (by simp)
         ·replace c71 := Bool.eq_false_iff.mpr c71
          subst c71
          have H1 : (none) = some r := by rw [if_neg (show ¬ (false = true) by decide)] at H; exact H
          clear H
          have H := H1
          clear H1
          exact absurd H (by simp)
        ·rw [if_neg c67] at H
         exact absurd H (by simp)
   ·replace c17 := Bool.eq_false_iff.mpr c17
    subst c17
    have H1 : (none) = some r := by rw [if_neg (show ¬ (false = true) by decide)] at H; exact H
    clear H
    have H := H1
    clear H1
    exact absurd H (by simp)
  ·replace c14 := Bool.eq_false_iff.mpr c14
   subst c14
   have H1 : (none) = some r := by rw [if_neg (show ¬ (false = true) by decide)] at H; exact H
   clear H
   have H := H1
   clear H1
   exact absurd H (by simp)

end Go.Proofs.Ytjapdjkckhcelaa.Pr
