/- Functions of the given program as plain Lean functions, and that the machine's calls come to them; written by a program of this session; no condition but those that each theorem states. -/
import Derived.Test.YtnnlgbpfdnaalaaPrx0
import Derived.Test.YtnnlgbpfdnaalaaPrxg3e55en1
import Derived.Test.YtnnlgbpfdnaalaaPrxg4c69an1
import Derived.Test.YtnnlgbpfdnaalaaPrxg4c69an2
namespace Go.Proofs.Ytnnlgbpfdnaalaa.Pr
open Go.RowKit Go.Proofs.YtnnlgbpfdnaalaaW.PrintWords Go.Proofs.YtnnlgbpfdnaalaaW.PrintLast Go.Proofs.YtnnlgbpfdnaalaaW.PrintMore
attribute [local go_sem] max2_int min2_int max_two min_two max_three min_three max_four min_four   -- for this text's walks alone
set_option linter.unusedVariables false
set_option linter.unusedSimpArgs false

/-! ### spec_l2Fits: function 68 -/
def spec_l2Fits.l0 : Nat → ByteArray → List (List Int) → Int → Int → Option (Bool)
 | 0, _, _, _, _ => none
 | k + 1, x1, x14, x15, x16 => if x16 < x15 then (if 0 ≤ x16 then (if x16 < (x14.length : Int) then ((spec_l2Rest.f k (rd_L3 x14 x16) x1).bind fun t1006 => (if 0 < (t1006.length : Int) then (if rdOf false t1006 0 = true then (some true) else (spec_l2Fits.l0 k x1 x14 x15 (wrap64 (x16 + 1)))) else (none))) else (none)) else (none)) else (some false)
def spec_l2Fits.f (k : Nat) (a0 : ByteArray) (a1 : ByteArray) : Option (Bool) := (spec_l2Alternatives.f k a0).bind fun bt1001 => (spec_l2Fits.l0 k a1 bt1001.1 (bt1001.1.length : Int) 0)
theorem spec_l2Fits.mono_l : ∀ k, (∀ y0 y1 y2 y3, LeO (spec_l2Fits.l0 k y0 y1 y2 y3) (spec_l2Fits.l0 (k + 1) y0 y1 y2 y3))
 | 0 => fun _ _ _ _ r h => by simp [spec_l2Fits.l0] at h
 | k + 1 => by
  have ih0 := spec_l2Fits.mono_l k
  ·intro y0 y1 y2 y3
   unfold spec_l2Fits.l0
   repeat' first
   | with_reducible first | exact ih0 _ _ _ _ | exact spec_l2Alternatives.mono _ _ | exact spec_l2Rest.mono _ _ _ | exact LeO.refl _ | exact LeO.none _ | refine LeO.ite ?_ ?_ | refine LeO.bind ?_ (fun _ => ?_)
   | exact ih0 _ _ _ _
   | exact spec_l2Alternatives.mono _ _
   | exact spec_l2Rest.mono _ _ _
   | exact LeO.none _
   | refine LeO.ite ?_ ?_
   | refine LeO.bind ?_ (fun _ => ?_)
theorem spec_l2Fits.mono : ∀ a0 a1 k, LeO (spec_l2Fits.f k a0 a1) (spec_l2Fits.f (k + 1) a0 a1) := by
 intro a0 a1 k
 have ih0 := spec_l2Fits.mono_l k
 unfold spec_l2Fits.f
 repeat' first
   | with_reducible first | exact ih0 _ _ _ _ | exact spec_l2Alternatives.mono _ _ | exact spec_l2Rest.mono _ _ _ | exact LeO.refl _ | exact LeO.none _ | refine LeO.ite ?_ ?_ | refine LeO.bind ?_ (fun _ => ?_)
   | exact ih0 _ _ _ _
   | exact spec_l2Alternatives.mono _ _
   | exact spec_l2Rest.mono _ _ _
   | exact LeO.none _
   | refine LeO.ite ?_ ?_
   | refine LeO.bind ?_ (fun _ => ?_)
set_option maxHeartbeats 8000000 in
set_option maxRecDepth 100000 in
theorem spec_l2Fits.calls (k : Nat) (a0 : ByteArray) (a1 : ByteArray) (r : Bool) (w : World) (h : spec_l2Fits.f k a0 a1 = some r) :
  Calls Try.prog 68 #[.string a0, .string a1] w fun e w' => e = .returned (.bool r) ∧ Below w.heap.size w w' := by
 have HB := am_ (Below.refl w.heap.size w)
 have H : ((spec_l2Alternatives.f k a0).bind fun bt1001 => (spec_l2Fits.l0 k a1 bt1001.1 (bt1001.1.length : Int) 0)) = some r := h
 clear h
 replace H := Option.bind_eq_some_iff.mp H
 obtain ⟨⟨t1001, t1002⟩, A30, H⟩ := H
 replace H : (spec_l2Fits.l0 k a1 t1001 (t1001.length : Int) 0) = some r := H
 have A3 := am_ A30
 clear A30
 have H' := am_ H
 clear H
 go_enter Try.func68, Try.ntmps68
 go_wp2_with (first | ((with_reducible refine gate_callee (f := 115) rfl ?_); refine goesL_ (some 11) rfl rfl Try.func115 (by kernel_rfl) rfl #[.string a0] rfl ag_ ?_; (with_reducible refine (spec_l2Alternatives.calls k a0 t1001 t1002 _ A3.out).mono ?_); rintro e w4 ⟨v1003, rfl, ho0, hb⟩; refine ⟨_, rfl, ?_⟩; have n0_ := am_ (Kd.S_lower ho0 (below_size bl_)); have n1_ := am_ (below_step bl_ hb); clear HB; have HO1004 := n0_; have HB := n1_; clear n0_ n1_; (try clear hb); (try clear hb2); (try clear hk); (try clear hi); (try clear ho0); obtain ⟨Ao5, co5, eo5⟩ := Kd.S_slice HO1004.out; subst eo5))
 go_loopg [16] k (fun kq v16 w' => ∃ (x16_1 : Int), v16 = .int .i64 x16_1 ∧ Aside0 (spec_l2Fits.l0 kq a1 t1001 (t1001.length : Int) x16_1 = some r) ∧ Aside0 (kq ≤ k) ∧ Aside0 (Kd.S (Kd.slice 3 (Kd.int .i64)) 64 w' w.heap.size (fun _ => True) (.slice Ao5 t1001.length co5) t1001) ∧ Aside0 (Below w.heap.size w w'))
 case atStart => exact ⟨(0), rs_, H', ⟨Nat.le_refl _⟩, ⟨by (with_reducible repeat (first | apply Kd.S_alloc | apply Kd.S_drewN | apply Kd.S_drew)); exact HO1004.out⟩, ⟨bl_⟩⟩
 case round =>
  clear H'
  try clear c1
  try clear p2
  obtain ⟨x16_1, rfl, HA, HK1, HO_14, HB⟩ := hrel
  cases gk with
  | zero => exact absurd HA.out (by simp [spec_l2Fits.l0])
  | succ k1 =>
   have H := HA.out
   clear HA
   simp only [spec_l2Fits.l0] at H
   by_cases c6 : x16_1 < (t1001.length : Int)
   ·rw [if_pos c6] at H
    have c6b0 : decide (x16_1 < (t1001.length : Int)) = true := decide_eq_true c6
    clear c6
    by_cases c7 : 0 ≤ x16_1
    ·rw [if_pos c7] at H
     have c7b0 : decide (0 ≤ x16_1) = true := decide_eq_true c7
     clear c7
     by_cases c8 : x16_1 < (t1001.length : Int)
     ·rw [if_pos c8] at H
      have c8b0 : decide (x16_1 < (t1001.length : Int)) = true := decide_eq_true c8
      clear c8
      replace H := Option.bind_eq_some_iff.mp H
      obtain ⟨t1006, A90, H⟩ := H
      replace H : (if 0 < (t1006.length : Int) then (if rdOf false t1006 0 = true then (some true) else (spec_l2Fits.l0 k1 a1 t1001 (t1001.length : Int) (wrap64 (x16_1 + 1)))) else (none)) = some r := H
      have A9 := am_ A90
      clear A90
      by_cases c10 : 0 < (t1006.length : Int)
      ·rw [if_pos c10] at H
       have c10b0 : decide (0 < (t1006.length : Int)) = true := decide_eq_true c10
       have c10b1 : decide (0 < t1006.length) = true := decide_eq_true (by omega)
       have c10b2 : 0 < t1006.length := by omega
       clear c10
       obtain ⟨bq11, hbq11⟩ : ∃ b_ : Bool, b_ = (rdOf false t1006 0) := ⟨_, rfl⟩
       replace H : (if bq11 = true then (some true) else (spec_l2Fits.l0 k1 a1 t1001 (t1001.length : Int) (wrap64 (x16_1 + 1)))) = some r := by rw [← hbq11] at H; exact H
       have Nbq11 := am_ hbq11
       clear hbq11
       by_cases c12 : bq11 = true
       ·subst c12
        have H1 : (some true) = some r := by rw [if_pos rfl] at H; exact H
        clear H
        have H := H1
        clear H1
        obtain rfl := Option.some.inj H
        have p1005 : 0 ≤ (x16_1 : Int) := od_
        have q1005 : x16_1 < (t1001.length : Int) := od_
        obtain ⟨ad1005, A1005_0, c1005_0, e1005, hx1005_0, hl1005_0, hi1005_0⟩ := at_L3 (Kd.S_reads' HO_14.out).2.2 x16_1 p1005 q1005
        cases e1005
        obtain ⟨ce1005, hce1005, hMe1005, hcc1005⟩ := Kd.S_get HO_14.out [] x16_1 p1005 (by first | exact q1005 | exact od_ | (have e_ := (Kd.S_reads' HO_14.out).1; omega))
        obtain ⟨ve1005_0, rfl, ge1005_0⟩ := hMe1005
        have hv1005_0 := hcc1005 0 _ rfl
        rw [Nat.add_zero, show ((Kd.slice 3 (Kd.int .i64))).sz = 1 from rfl, Nat.mul_one] at hv1005_0
        replace hv1005_0 := Option.some.inj (hv1005_0.symm.trans hx1005_0)
        rw [hv1005_0] at ge1005_0
        have HL1005_0 := am_ (show Kd.R (Kd.int .i64) 3 _ _ _ _ (rd_L3 t1001 x16_1) from ge1005_0)
        clear hv1005_0 ge1005_0
        clear hcc1005 hce1005
        have HR1005_0 := am_ hi1005_0
        have HC1005_0 := am_ hl1005_0
        clear hi1005_0 hl1005_0
        replace p1005 := eq_true p1005
        replace q1005 := eq_true q1005
        go_wp2_with (first | ((with_reducible refine gate_callee (f := 116) rfl ?_); refine goesL_ (some 22) rfl rfl Try.func116 (by kernel_rfl) rfl #[.slice A1005_0 (rd_L3 t1001 x16_1).length c1005_0, .string a1] rfl ag_ ?_; (with_reducible refine (spec_l2Rest.calls k1 _ _ (rd_L3 t1001 x16_1) a1 t1006 _ ?side1 ?side2 A9.out).mono ?_); (case side1 => repeat (first | exact (by repeat (first | (with_reducible exact HR1005_0.out) | (with_reducible refine Kd.C_alloc ?_ _) | (with_reducible refine Kd.C_drewN ?_ _) | (with_reducible refine Kd.C_drew ?_) | exact HR1005_0.out)) | (with_reducible refine Kd.C_alloc ?_ _) | (with_reducible refine Kd.C_drewN ?_ _) | (with_reducible refine Kd.C_drew ?_))); (case side2 => exact HC1005_0.out); rintro e w13 ⟨v1007, rfl, ho0, hb⟩; refine ⟨_, rfl, ?_⟩; have n0_ := am_ (Kd.S_below (by (with_reducible repeat (first | apply Kd.S_alloc | apply Kd.S_drewN | apply Kd.S_drew)); exact HO_14.out) hb); have n1_ := am_ (Kd.R_below (ro_ HL1005_0) hb); have n2_ := am_ (Kd.R_lower ho0 (below_size bl_)); have n3_ := am_ (Kd.C_below (by repeat (first | (with_reducible exact HR1005_0.out) | (with_reducible refine Kd.C_alloc ?_ _) | (with_reducible refine Kd.C_drewN ?_ _) | (with_reducible refine Kd.C_drew ?_) | exact HR1005_0.out)) hb); have n4_ := am_ (below_step bl_ hb); clear HO_14; clear HL1005_0; clear HR1005_0; clear HB; have HO_14 := n0_; have HL1005_0 := n1_; have HO1008 := n2_; have HR1005_0 := n3_; have HB := n4_; clear n0_ n1_ n2_ n3_ n4_; (try clear hb); (try clear hb2); (try clear hk); (try clear hi); (try clear ho0); obtain ⟨Ao14, co14, eo14⟩ := Kd.R_slice HO1008.out; subst eo14; have p1009 : 0 ≤ (0 : Int) := (by omega); have q1009 : 0 < (t1006.length : Int) := od_; obtain ⟨ad1009, e1009, hx1009_0⟩ := Kd.at_bool (Kd.R_reads' HO1008.out).2.2 0 p1009 q1009; (try rw [← Nbq11.out] at hx1009_0); cases e1009; have qi1009 : (0 < t1006.length) = True := eq_true (by omega); (try rw [show ((0 : Int)).toNat = 0 from rfl] at hx1009_0); (try rw [Addr.add_zero'] at hx1009_0); replace p1009 := eq_true p1009; replace q1009 := eq_true q1009))
        go_ret
        exact ⟨rf_, bl_⟩
       ·replace c12 := Bool.eq_false_iff.mpr c12
        subst c12
        have H1 : (spec_l2Fits.l0 k1 a1 t1001 (t1001.length : Int) (wrap64 (x16_1 + 1))) = some r := by rw [if_neg (show ¬ (false = true) by decide)] at H; exact H
        clear H
        have H := H1
        clear H1
        have H' := am_ H
        clear H
        have p1005 : 0 ≤ (x16_1 : Int) := od_
        have q1005 : x16_1 < (t1001.length : Int) := od_
        obtain ⟨ad1005, A1005_0, c1005_0, e1005, hx1005_0, hl1005_0, hi1005_0⟩ := at_L3 (Kd.S_reads' HO_14.out).2.2 x16_1 p1005 q1005
        cases e1005
        obtain ⟨ce1005, hce1005, hMe1005, hcc1005⟩ := Kd.S_get HO_14.out [] x16_1 p1005 (by first | exact q1005 | exact od_ | (have e_ := (Kd.S_reads' HO_14.out).1; omega))
        obtain ⟨ve1005_0, rfl, ge1005_0⟩ := hMe1005
        have hv1005_0 := hcc1005 0 _ rfl
        rw [Nat.add_zero, show ((Kd.slice 3 (Kd.int .i64))).sz = 1 from rfl, Nat.mul_one] at hv1005_0
        replace hv1005_0 := Option.some.inj (hv1005_0.symm.trans hx1005_0)
        rw [hv1005_0] at ge1005_0
        have HL1005_0 := am_ (show Kd.R (Kd.int .i64) 3 _ _ _ _ (rd_L3 t1001 x16_1) from ge1005_0)
        clear hv1005_0 ge1005_0
        clear hcc1005 hce1005
        have HR1005_0 := am_ hi1005_0
        have HC1005_0 := am_ hl1005_0
        clear hi1005_0 hl1005_0
        replace p1005 := eq_true p1005
        replace q1005 := eq_true q1005
        go_wp2_with (first | ((with_reducible refine gate_callee (f := 116) rfl ?_); refine goesL_ (some 22) rfl rfl Try.func116 (by kernel_rfl) rfl #[.slice A1005_0 (rd_L3 t1001 x16_1).length c1005_0, .string a1] rfl ag_ ?_; (with_reducible refine (spec_l2Rest.calls k1 _ _ (rd_L3 t1001 x16_1) a1 t1006 _ ?side1 ?side2 A9.out).mono ?_); (case side1 => repeat (first | exact (by repeat (first | (with_reducible exact HR1005_0.out) | (with_reducible refine Kd.C_alloc ?_ _) | (with_reducible refine Kd.C_drewN ?_ _) | (with_reducible refine Kd.C_drew ?_) | exact HR1005_0.out)) | (with_reducible refine Kd.C_alloc ?_ _) | (with_reducible refine Kd.C_drewN ?_ _) | (with_reducible refine Kd.C_drew ?_))); (case side2 => exact HC1005_0.out); rintro e w15 ⟨v1007, rfl, ho0, hb⟩; refine ⟨_, rfl, ?_⟩; have n0_ := am_ (Kd.S_below (by (with_reducible repeat (first | apply Kd.S_alloc | apply Kd.S_drewN | apply Kd.S_drew)); exact HO_14.out) hb); have n1_ := am_ (Kd.R_below (ro_ HL1005_0) hb); have n2_ := am_ (Kd.R_lower ho0 (below_size bl_)); have n3_ := am_ (Kd.C_below (by repeat (first | (with_reducible exact HR1005_0.out) | (with_reducible refine Kd.C_alloc ?_ _) | (with_reducible refine Kd.C_drewN ?_ _) | (with_reducible refine Kd.C_drew ?_) | exact HR1005_0.out)) hb); have n4_ := am_ (below_step bl_ hb); clear HO_14; clear HL1005_0; clear HR1005_0; clear HB; have HO_14 := n0_; have HL1005_0 := n1_; have HO1008 := n2_; have HR1005_0 := n3_; have HB := n4_; clear n0_ n1_ n2_ n3_ n4_; (try clear hb); (try clear hb2); (try clear hk); (try clear hi); (try clear ho0); obtain ⟨Ao16, co16, eo16⟩ := Kd.R_slice HO1008.out; subst eo16; have p1009 : 0 ≤ (0 : Int) := (by omega); have q1009 : 0 < (t1006.length : Int) := od_; obtain ⟨ad1009, e1009, hx1009_0⟩ := Kd.at_bool (Kd.R_reads' HO1008.out).2.2 0 p1009 q1009; (try rw [← Nbq11.out] at hx1009_0); cases e1009; have qi1009 : (0 < t1006.length) = True := eq_true (by omega); (try rw [show ((0 : Int)).toNat = 0 from rfl] at hx1009_0); (try rw [Addr.add_zero'] at hx1009_0); replace p1009 := eq_true p1009; replace q1009 := eq_true q1009))
        go_roundg k1
        case measure => have := HK1.out; omega
        case rel => exact ⟨(wrap64 (x16_1 + 1)), rs_, H', ⟨by have := HK1.out; omega⟩, ⟨by (with_reducible repeat (first | apply Kd.S_alloc | apply Kd.S_drewN | apply Kd.S_drew)); exact HO_14.out⟩, ⟨bl_⟩⟩
      ·rw [if_neg c10] at H
       exact absurd H (by simp)
     ·rw [if_neg c8] at H
      exact absurd H (by simp)
    ·rw [if_neg c7] at H
     exact absurd H (by simp)
   ·rw [if_neg c6] at H
    have c6b0 : decide (x16_1 < (t1001.length : Int)) = false := decide_eq_false c6
    clear c6
    obtain rfl := Option.some.inj H
    go_wp2
    go_ret
    exact ⟨rf_, bl_⟩

/-! ### impl_PatternFits: function 21 -/
def impl_PatternFits.f (k : Nat) (a0 : ByteArray) (a1 : ByteArray) : Option (Bool) := (impl_PatternParts.f k a0 a1).bind fun bt1001 => (some bt1001.2)
theorem impl_PatternFits.mono : ∀ a0 a1 k, LeO (impl_PatternFits.f k a0 a1) (impl_PatternFits.f (k + 1) a0 a1) := by
 intro a0 a1 k
 unfold impl_PatternFits.f
 repeat' first
   | with_reducible first | exact impl_PatternParts.mono _ _ _ | exact LeO.refl _ | exact LeO.none _ | refine LeO.ite ?_ ?_ | refine LeO.bind ?_ (fun _ => ?_)
   | exact impl_PatternParts.mono _ _ _
   | exact LeO.none _
   | refine LeO.ite ?_ ?_
   | refine LeO.bind ?_ (fun _ => ?_)
set_option maxHeartbeats 8000000 in
set_option maxRecDepth 100000 in
theorem impl_PatternFits.calls (k : Nat) (a0 : ByteArray) (a1 : ByteArray) (r : Bool) (w : World) (h : impl_PatternFits.f k a0 a1 = some r) :
  Calls Try.prog 21 #[.string a0, .string a1] w fun e w' => e = .returned (.bool r) ∧ Below w.heap.size w w' := by
 have HB := am_ (Below.refl w.heap.size w)
 have H : ((impl_PatternParts.f k a0 a1).bind fun bt1001 => (some bt1001.2)) = some r := h
 clear h
 replace H := Option.bind_eq_some_iff.mp H
 obtain ⟨⟨t1001, t1002⟩, A30, H⟩ := H
 replace H : (some t1002) = some r := H
 have A3 := am_ A30
 clear A30
 obtain rfl := Option.some.inj H
 go_enter Try.func21, Try.ntmps21
 go_wp2_with (first | ((with_reducible refine gate_callee (f := 28) rfl ?_); refine goesL_ (some 10) rfl rfl Try.func28 (by kernel_rfl) rfl #[.string a0, .string a1] rfl ag_ ?_; (with_reducible refine (impl_PatternParts.calls k a0 a1 t1001 t1002 _ A3.out).mono ?_); rintro e w4 ⟨v1003, rfl, ho0, hb⟩; refine ⟨_, rfl, ?_⟩; have n0_ := am_ (Kd.R_lower ho0 (below_size bl_)); have n1_ := am_ (below_step bl_ hb); clear HB; have HO1004 := n0_; have HB := n1_; clear n0_ n1_; (try clear hb); (try clear hb2); (try clear hk); (try clear hi); (try clear ho0)))
 go_ret
 exact ⟨rf_, bl_⟩

end Go.Proofs.Ytnnlgbpfdnaalaa.Pr
