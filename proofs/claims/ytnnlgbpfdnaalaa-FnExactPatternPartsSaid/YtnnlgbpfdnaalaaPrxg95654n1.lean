/- Functions of the given program as plain Lean functions, and that the machine's calls come to them; written by a program of this session; no condition but those that each theorem states. -/
import Derived.Test.YtnnlgbpfdnaalaaPrx0
import Derived.Test.YtnnlgbpfdnaalaaPrxg7c734n1
import Derived.Test.YtnnlgbpfdnaalaaPrxg3e55en1
import Derived.Test.YtnnlgbpfdnaalaaPrxg4c69an1
import Derived.Test.YtnnlgbpfdnaalaaPrxg4c69an2
import Derived.Test.YtnnlgbpfdnaalaaPrxge9eean1
namespace Go.Proofs.Ytnnlgbpfdnaalaa.Pr
open Go.RowKit Go.Proofs.YtnnlgbpfdnaalaaW.PrintWords Go.Proofs.YtnnlgbpfdnaalaaW.PrintLast Go.Proofs.YtnnlgbpfdnaalaaW.PrintMore
attribute [local go_sem] max2_int min2_int max_two min_two max_three min_three max_four min_four   -- for this text's walks alone
set_option linter.unusedVariables false
set_option linter.unusedSimpArgs false

/-! ### spec_l2Parts: function 77 -/
mutual
def spec_l2Parts.l0 : Nat → ByteArray → List (List Int) → Int → Int → Option (List ByteArray × Bool)
 | 0, _, _, _, _ => none
 | k + 1, x1, x21, x22, x23 => if x23 < x22 then (if 0 ≤ x23 then (if x23 < (x21.length : Int) then ((spec_l2Rest.f k (rd_L3 x21 x23) x1).bind fun t1006 => (if 0 < (t1006.length : Int) then (if rdOf false t1006 0 = true then (spec_l2Parts.l1 k x1 (rd_L3 x21 x23) ([] : List ByteArray) 0 (rd_L3 x21 x23) ((rd_L3 x21 x23).length : Int) 0) else (spec_l2Parts.l0 k x1 x21 x22 (wrap64 (x23 + 1)))) else (none))) else (none)) else (none)) else (some (([] : List ByteArray), false))
def spec_l2Parts.l1 : Nat → ByteArray → List Int → List ByteArray → Int → List Int → Int → Int → Option (List ByteArray × Bool)
 | 0, _, _, _, _, _, _, _ => none
 | k + 1, x1, x9, x10, x11, x33, x34, x35 => if x35 < x34 then (if 0 ≤ x35 then (if x35 < (x33.length : Int) then (if (rd x33 x35) = (-1) then (if 0 ≤ (wrap64 (x35 + 1)) then (if (wrap64 (x35 + 1)) ≤ (x9.length : Int) then ((spec_l2Rest.f k (x9.drop ((wrap64 (x35 + 1)) : Int).toNat) x1).bind fun t1012 => (spec_l2Parts.l2 k x1 x9 x10 x11 t1012 x11 x33 x34 x35)) else (none)) else (none)) else (spec_l2Parts.l1 k x1 x9 x10 (wrap64 (x11 + 1)) x33 x34 (wrap64 (x35 + 1)))) else (none)) else (none)) else (some (x10, true))
def spec_l2Parts.l2 : Nat → ByteArray → List Int → List ByteArray → Int → List Bool → Int → List Int → Int → Int → Option (List ByteArray × Bool)
 | 0, _, _, _, _, _, _, _, _, _ => none
 | k + 1, x1, x9, x10, x11, x14, x15, x33, x34, x35 => if 0 ≤ x15 then (if x15 < (x14.length : Int) then (if rdOf false x14 x15 = true then (if 0 ≤ x11 then (if x11 ≤ x15 then (if x15 ≤ (x1.size : Int) then (if x10.length < 8796093022208 then (spec_l2Parts.l1 k x1 x9 (x10 ++ [x1.extract (x11 : Int).toNat (x15 : Int).toNat]) x15 x33 x34 (wrap64 (x35 + 1))) else (none)) else (none)) else (none)) else (none)) else (spec_l2Parts.l2 k x1 x9 x10 x11 x14 (wrap64 (x15 + 1)) x33 x34 x35)) else (none)) else (none)
end
def spec_l2Parts.f (k : Nat) (a0 : ByteArray) (a1 : ByteArray) : Option (List ByteArray × Bool) := (spec_l2Alternatives.f k a0).bind fun bt1001 => (spec_l2Parts.l0 k a1 bt1001.1 (bt1001.1.length : Int) 0)
theorem spec_l2Parts.mono_l : ∀ k, (∀ y0 y1 y2 y3, LeO (spec_l2Parts.l0 k y0 y1 y2 y3) (spec_l2Parts.l0 (k + 1) y0 y1 y2 y3)) ∧ (∀ y0 y1 y2 y3 y4 y5 y6, LeO (spec_l2Parts.l1 k y0 y1 y2 y3 y4 y5 y6) (spec_l2Parts.l1 (k + 1) y0 y1 y2 y3 y4 y5 y6)) ∧ (∀ y0 y1 y2 y3 y4 y5 y6 y7 y8, LeO (spec_l2Parts.l2 k y0 y1 y2 y3 y4 y5 y6 y7 y8) (spec_l2Parts.l2 (k + 1) y0 y1 y2 y3 y4 y5 y6 y7 y8))
 | 0 => ⟨fun _ _ _ _ r h => by simp [spec_l2Parts.l0] at h, fun _ _ _ _ _ _ _ r h => by simp [spec_l2Parts.l1] at h, fun _ _ _ _ _ _ _ _ _ r h => by simp [spec_l2Parts.l2] at h⟩
 | k + 1 => by
  obtain ⟨ih0, ih1, ih2⟩ := spec_l2Parts.mono_l k
  refine ⟨?_, ?_, ?_⟩
  ·intro y0 y1 y2 y3
   unfold spec_l2Parts.l0
   repeat' first
   | with_reducible first | exact ih0 _ _ _ _ | exact ih1 _ _ _ _ _ _ _ | exact ih2 _ _ _ _ _ _ _ _ _ | exact spec_l2Alternatives.mono _ _ | exact spec_l2Rest.mono _ _ _ | exact LeO.refl _ | exact LeO.none _ | refine LeO.ite ?_ ?_ | refine LeO.bind ?_ (fun _ => ?_)
   | exact ih0 _ _ _ _
   | exact ih1 _ _ _ _ _ _ _
   | exact ih2 _ _ _ _ _ _ _ _ _
   | exact spec_l2Alternatives.mono _ _
   | exact spec_l2Rest.mono _ _ _
   | exact LeO.none _
   | refine LeO.ite ?_ ?_
   | refine LeO.bind ?_ (fun _ => ?_)
  ·intro y0 y1 y2 y3 y4 y5 y6
   unfold spec_l2Parts.l1
   repeat' first
   | with_reducible first | exact ih0 _ _ _ _ | exact ih1 _ _ _ _ _ _ _ | exact ih2 _ _ _ _ _ _ _ _ _ | exact spec_l2Alternatives.mono _ _ | exact spec_l2Rest.mono _ _ _ | exact LeO.refl _ | exact LeO.none _ | refine LeO.ite ?_ ?_ | refine LeO.bind ?_ (fun _ => ?_)
   | exact ih0 _ _ _ _
   | exact ih1 _ _ _ _ _ _ _
   | exact ih2 _ _ _ _ _ _ _ _ _
   | exact spec_l2Alternatives.mono _ _
   | exact spec_l2Rest.mono _ _ _
   | exact LeO.none _
   | refine LeO.ite ?_ ?_
   | refine LeO.bind ?_ (fun _ => ?_)
  ·intro y0 y1 y2 y3 y4 y5 y6 y7 y8
   unfold spec_l2Parts.l2
   repeat' first
   | with_reducible first | exact ih0 _ _ _ _ | exact ih1 _ _ _ _ _ _ _ | exact ih2 _ _ _ _ _ _ _ _ _ | exact spec_l2Alternatives.mono _ _ | exact spec_l2Rest.mono _ _ _ | exact LeO.refl _ | exact LeO.none _ | refine LeO.ite ?_ ?_ | refine LeO.bind ?_ (fun _ => ?_)
   | exact ih0 _ _ _ _
   | exact ih1 _ _ _ _ _ _ _
   | exact ih2 _ _ _ _ _ _ _ _ _
   | exact spec_l2Alternatives.mono _ _
   | exact spec_l2Rest.mono _ _ _
   | exact LeO.none _
   | refine LeO.ite ?_ ?_
   | refine LeO.bind ?_ (fun _ => ?_)
theorem spec_l2Parts.mono : ∀ a0 a1 k, LeO (spec_l2Parts.f k a0 a1) (spec_l2Parts.f (k + 1) a0 a1) := by
 intro a0 a1 k
 obtain ⟨ih0, ih1, ih2⟩ := spec_l2Parts.mono_l k
 unfold spec_l2Parts.f
 repeat' first
   | with_reducible first | exact ih0 _ _ _ _ | exact ih1 _ _ _ _ _ _ _ | exact ih2 _ _ _ _ _ _ _ _ _ | exact spec_l2Alternatives.mono _ _ | exact spec_l2Rest.mono _ _ _ | exact LeO.refl _ | exact LeO.none _ | refine LeO.ite ?_ ?_ | refine LeO.bind ?_ (fun _ => ?_)
   | exact ih0 _ _ _ _
   | exact ih1 _ _ _ _ _ _ _
   | exact ih2 _ _ _ _ _ _ _ _ _
   | exact spec_l2Alternatives.mono _ _
   | exact spec_l2Rest.mono _ _ _
   | exact LeO.none _
   | refine LeO.ite ?_ ?_
   | refine LeO.bind ?_ (fun _ => ?_)
set_option maxHeartbeats 8000000 in
set_option maxRecDepth 100000 in
theorem spec_l2Parts.calls (k : Nat) (a0 : ByteArray) (a1 : ByteArray) (r1 : List ByteArray) (r2 : Bool) (w : World) (h : spec_l2Parts.f k a0 a1 = some (r1, r2)) :
  Calls Try.prog 77 #[.string a0, .string a1] w fun e w' => ∃ v0_ : Value, e = .returned (.tuple #[v0_, .bool r2]) ∧ Kd.R Kd.string 9 w' w.heap.size (fun _ => True) v0_ r1 ∧ Below w.heap.size w w' := by
 have HB := am_ (Below.refl w.heap.size w)
 have H : ((spec_l2Alternatives.f k a0).bind fun bt1001 => (spec_l2Parts.l0 k a1 bt1001.1 (bt1001.1.length : Int) 0)) = some (r1, r2) := h
 clear h
 replace H := Option.bind_eq_some_iff.mp H
 obtain ⟨⟨t1001, t1002⟩, A30, H⟩ := H
 replace H : (spec_l2Parts.l0 k a1 t1001 (t1001.length : Int) 0) = some (r1, r2) := H
 have A3 := am_ A30
 clear A30
 have H' := am_ H
 clear H
 go_enter Try.func77, Try.ntmps77
 go_wp2_with (first | ((with_reducible refine gate_callee (f := 115) rfl ?_); refine goesL_ (some 18) rfl rfl Try.func115 (by kernel_rfl) rfl #[.string a0] rfl ag_ ?_; (with_reducible refine (spec_l2Alternatives.calls k a0 t1001 t1002 _ A3.out).mono ?_); rintro e w4 ⟨v1003, rfl, ho0, hb⟩; refine ⟨_, rfl, ?_⟩; have n0_ := am_ (Kd.S_lower ho0 (below_size bl_)); have n1_ := am_ (below_step bl_ hb); clear HB; have HO1004 := n0_; have HB := n1_; clear n0_ n1_; (try clear hb); (try clear hb2); (try clear hk); (try clear hi); (try clear ho0); obtain ⟨Ao5, co5, eo5⟩ := Kd.S_slice HO1004.out; subst eo5))
 go_loopg [23] k (fun kq v23 w' => ∃ (x23_1 : Int), v23 = .int .i64 x23_1 ∧ Aside0 (spec_l2Parts.l0 kq a1 t1001 (t1001.length : Int) x23_1 = some (r1, r2)) ∧ Aside0 (kq ≤ k) ∧ Aside0 (Kd.S (Kd.slice 3 (Kd.int .i64)) 64 w' w.heap.size (fun _ => True) (.slice Ao5 t1001.length co5) t1001) ∧ Aside0 (Below w.heap.size w w'))
 case atStart => exact ⟨(0), rs_, H', ⟨Nat.le_refl _⟩, ⟨by (with_reducible repeat (first | apply Kd.S_alloc | apply Kd.S_drewN | apply Kd.S_drew)); exact HO1004.out⟩, ⟨bl_⟩⟩
 case round =>
  clear H'
  try clear c1
  try clear p2
  obtain ⟨x23_1, rfl, HA, HK1, HO_21, HB⟩ := hrel
  cases gk with
  | zero => exact absurd HA.out (by simp [spec_l2Parts.l0])
  | succ k1 =>
   have H := HA.out
   clear HA
   simp only [spec_l2Parts.l0] at H
   by_cases c6 : x23_1 < (t1001.length : Int)
   ·rw [if_pos c6] at H
    have c6b0 : decide (x23_1 < (t1001.length : Int)) = true := decide_eq_true c6
    clear c6
    by_cases c7 : 0 ≤ x23_1
    ·rw [if_pos c7] at H
     have c7b0 : decide (0 ≤ x23_1) = true := decide_eq_true c7
     clear c7
     by_cases c8 : x23_1 < (t1001.length : Int)
     ·rw [if_pos c8] at H
      have c8b0 : decide (x23_1 < (t1001.length : Int)) = true := decide_eq_true c8
      clear c8
      replace H := Option.bind_eq_some_iff.mp H
      obtain ⟨t1006, A90, H⟩ := H
      replace H : (if 0 < (t1006.length : Int) then (if rdOf false t1006 0 = true then (spec_l2Parts.l1 k1 a1 (rd_L3 t1001 x23_1) ([] : List ByteArray) 0 (rd_L3 t1001 x23_1) ((rd_L3 t1001 x23_1).length : Int) 0) else (spec_l2Parts.l0 k1 a1 t1001 (t1001.length : Int) (wrap64 (x23_1 + 1)))) else (none)) = some (r1, r2) := H
      have A9 := am_ A90
      clear A90
      by_cases c10 : 0 < (t1006.length : Int)
      ·rw [if_pos c10] at H
       have c10b0 : decide (0 < (t1006.length : Int)) = true := decide_eq_true c10
       have c10b1 : decide (0 < t1006.length) = true := decide_eq_true (by omega)
       have c10b2 : 0 < t1006.length := by omega
       clear c10
       obtain ⟨bq11, hbq11⟩ : ∃ b_ : Bool, b_ = (rdOf false t1006 0) := ⟨_, rfl⟩
       replace H : (if bq11 = true then (spec_l2Parts.l1 k1 a1 (rd_L3 t1001 x23_1) ([] : List ByteArray) 0 (rd_L3 t1001 x23_1) ((rd_L3 t1001 x23_1).length : Int) 0) else (spec_l2Parts.l0 k1 a1 t1001 (t1001.length : Int) (wrap64 (x23_1 + 1)))) = some (r1, r2) := by rw [← hbq11] at H; exact H
       have Nbq11 := am_ hbq11
       clear hbq11
       by_cases c12 : bq11 = true
       ·subst c12
        have H1 : (spec_l2Parts.l1 k1 a1 (rd_L3 t1001 x23_1) ([] : List ByteArray) 0 (rd_L3 t1001 x23_1) ((rd_L3 t1001 x23_1).length : Int) 0) = some (r1, r2) := by rw [if_pos rfl] at H; exact H
        clear H
        have H := H1
        clear H1
        have H' := am_ H
        clear H
        have p1005 : 0 ≤ (x23_1 : Int) := od_
        have q1005 : x23_1 < (t1001.length : Int) := od_
        obtain ⟨ad1005, A1005_0, c1005_0, e1005, hx1005_0, hl1005_0, hi1005_0⟩ := at_L3 (Kd.S_reads' HO_21.out).2.2 x23_1 p1005 q1005
        cases e1005
        obtain ⟨ce1005, hce1005, hMe1005, hcc1005⟩ := Kd.S_get HO_21.out [] x23_1 p1005 (by first | exact q1005 | exact od_ | (have e_ := (Kd.S_reads' HO_21.out).1; omega))
        obtain ⟨ve1005_0, rfl, ge1005_0⟩ := hMe1005
        have hv1005_0 := hcc1005 0 _ rfl
        rw [Nat.add_zero, show ((Kd.slice 3 (Kd.int .i64))).sz = 1 from rfl, Nat.mul_one] at hv1005_0
        replace hv1005_0 := Option.some.inj (hv1005_0.symm.trans hx1005_0)
        rw [hv1005_0] at ge1005_0
        have HL1005_0 := am_ (show Kd.R (Kd.int .i64) 3 _ _ _ _ (rd_L3 t1001 x23_1) from ge1005_0)
        clear hv1005_0 ge1005_0
        clear hcc1005 hce1005
        have HR1005_0 := am_ hi1005_0
        have HC1005_0 := am_ hl1005_0
        clear hi1005_0 hl1005_0
        replace p1005 := eq_true p1005
        replace q1005 := eq_true q1005
        go_wp2_with (first | ((with_reducible refine gate_callee (f := 116) rfl ?_); refine goesL_ (some 29) rfl rfl Try.func116 (by kernel_rfl) rfl #[.slice A1005_0 (rd_L3 t1001 x23_1).length c1005_0, .string a1] rfl ag_ ?_; (with_reducible refine (spec_l2Rest.calls k1 _ _ (rd_L3 t1001 x23_1) a1 t1006 _ ?side1 ?side2 A9.out).mono ?_); (case side1 => repeat (first | exact (by repeat (first | (with_reducible exact HR1005_0.out) | (with_reducible refine Kd.C_alloc ?_ _) | (with_reducible refine Kd.C_drewN ?_ _) | (with_reducible refine Kd.C_drew ?_) | exact HR1005_0.out)) | (with_reducible refine Kd.C_alloc ?_ _) | (with_reducible refine Kd.C_drewN ?_ _) | (with_reducible refine Kd.C_drew ?_))); (case side2 => exact HC1005_0.out); rintro e w13 ⟨v1007, rfl, ho0, hb⟩; refine ⟨_, rfl, ?_⟩; have n0_ := am_ (Kd.S_below (by (with_reducible repeat (first | apply Kd.S_alloc | apply Kd.S_drewN | apply Kd.S_drew)); exact HO_21.out) hb); have n1_ := am_ (Kd.R_below (ro_ HL1005_0) hb); have n2_ := am_ (Kd.R_lower ho0 (below_size bl_)); have n3_ := am_ (Kd.C_below (by repeat (first | (with_reducible exact HR1005_0.out) | (with_reducible refine Kd.C_alloc ?_ _) | (with_reducible refine Kd.C_drewN ?_ _) | (with_reducible refine Kd.C_drew ?_) | exact HR1005_0.out)) hb); have n4_ := am_ (below_step bl_ hb); clear HO_21; clear HL1005_0; clear HR1005_0; clear HB; have HO_21 := n0_; have HL1005_0 := n1_; have HO1008 := n2_; have HR1005_0 := n3_; have HB := n4_; clear n0_ n1_ n2_ n3_ n4_; (try clear hb); (try clear hb2); (try clear hk); (try clear hi); (try clear ho0); obtain ⟨Ao14, co14, eo14⟩ := Kd.R_slice HO1008.out; subst eo14; have p1009 : 0 ≤ (0 : Int) := (by omega); have q1009 : 0 < (t1006.length : Int) := od_; obtain ⟨ad1009, e1009, hx1009_0⟩ := Kd.at_bool (Kd.R_reads' HO1008.out).2.2 0 p1009 q1009; (try rw [← Nbq11.out] at hx1009_0); cases e1009; have qi1009 : (0 < t1006.length) = True := eq_true (by omega); (try rw [show ((0 : Int)).toNat = 0 from rfl] at hx1009_0); (try rw [Addr.add_zero'] at hx1009_0); replace p1009 := eq_true p1009; replace q1009 := eq_true q1009))
        go_loopg [10, 11, 35] k1 (fun kq v10 v11 v35 w' => ∃ (x10_2 : List ByteArray) (x11_2 : Int) (x35_2 : Int), v11 = .int .i64 x11_2 ∧ v35 = .int .i64 x35_2 ∧ Aside0 (spec_l2Parts.l1 kq a1 (rd_L3 t1001 x23_1) x10_2 x11_2 (rd_L3 t1001 x23_1) ((rd_L3 t1001 x23_1).length : Int) x35_2 = some (r1, r2)) ∧ Aside0 (kq ≤ k1) ∧ Aside0 (Kd.R Kd.string 9 w' w.heap.size (fun _ => True) v10 x10_2) ∧ Aside0 (Kd.R (Kd.int .i64) 3 w' w.heap.size (fun _ => True) (.slice A1005_0 (rd_L3 t1001 x23_1).length c1005_0) (rd_L3 t1001 x23_1)) ∧ Aside0 (Below w.heap.size w w'))
        case atStart => exact ⟨(([] : List ByteArray)), (0), (0), rs_, rs_, H', ⟨Nat.le_refl _⟩, ⟨ni_⟩, ⟨Kd.R_mono (ro_ HL1005_0) (fun _ _ => trivial)⟩, ⟨bl_⟩⟩
        case round =>
         clear H'
         try clear c1
         try clear p1
         try clear q1
         try clear hx1
         try clear qi1
         try clear p2
         try clear c6
         try clear c6b0
         try clear p6
         try clear c7
         try clear c7b0
         try clear c8
         try clear c8b0
         try clear c10
         try clear c10b0
         try clear c10b1
         try clear p10
         try clear q10
         try clear hx10
         try clear qi10
         try clear c11
         try clear q11
         try clear c12
         try clear hx1005_0
         try clear hx1009_0
         try clear p1005
         try clear p1009
         try clear p2
         try clear q1005
         try clear q1009
         obtain ⟨x10_2, x11_2, x35_2, rfl, rfl, HA, HK2, HO_10, HL1005_0, HB⟩ := hrel
         have HR1005_0 := am_ (Kd.R_reads' HL1005_0.out).2.2
         cases gk with
         | zero => exact absurd HA.out (by simp [spec_l2Parts.l1])
         | succ k2 =>
          have H := HA.out
          clear HA
          simp only [spec_l2Parts.l1] at H
          by_cases c15 : x35_2 < ((rd_L3 t1001 x23_1).length : Int)
          ·rw [if_pos c15] at H
           have c15b0 : decide (x35_2 < ((rd_L3 t1001 x23_1).length : Int)) = true := decide_eq_true c15
           clear c15
           by_cases c16 : 0 ≤ x35_2
           ·rw [if_pos c16] at H
            have c16b0 : decide (0 ≤ x35_2) = true := decide_eq_true c16
            clear c16
            by_cases c17 : x35_2 < ((rd_L3 t1001 x23_1).length : Int)
            ·rw [if_pos c17] at H
             have c17b0 : decide (x35_2 < ((rd_L3 t1001 x23_1).length : Int)) = true := decide_eq_true c17
             clear c17
             by_cases c18 : (rd (rd_L3 t1001 x23_1) x35_2) = (-1)
             ·rw [if_pos c18] at H
              have c18b0 : ((rd (rd_L3 t1001 x23_1) x35_2) == (-1)) = true := beq_iff_eq.mpr c18
              have c18b1 : ((rd (rd_L3 t1001 x23_1) x35_2) != (-1)) = false := bne_eq_false_iff_eq.mpr c18
              clear c18
              obtain ⟨ji19, hji19⟩ : ∃ j_ : Int, (wrap64 (x35_2 + 1)) = j_ := ⟨_, rfl⟩
              replace H : (if 0 ≤ (ji19) then (if (ji19) ≤ ((rd_L3 t1001 x23_1).length : Int) then ((spec_l2Rest.f k2 ((rd_L3 t1001 x23_1).drop ((ji19) : Int).toNat) a1).bind fun t1012 => (spec_l2Parts.l2 k2 a1 (rd_L3 t1001 x23_1) x10_2 x11_2 t1012 x11_2 (rd_L3 t1001 x23_1) ((rd_L3 t1001 x23_1).length : Int) x35_2)) else (none)) else (none)) = some (r1, r2) := by first | (rw [hji19] at H; exact H) | (simp only [hji19] at H ⊢; exact H)
              have hji19w : (IntKind.i64.wrap (x35_2 + 1)) = ji19 := (i64_w _).trans hji19
              by_cases c20 : 0 ≤ (ji19)
              ·rw [if_pos c20] at H
               have c20b0 := eq_true c20
               have c20b1 : decide (0 ≤ (ji19)) = true := decide_eq_true c20
               clear c20
               by_cases c21 : (ji19) ≤ ((rd_L3 t1001 x23_1).length : Int)
               ·rw [if_pos c21] at H
                have c21b0 := eq_true c21
                have c21b1 : decide ((ji19) ≤ ((rd_L3 t1001 x23_1).length : Int)) = true := decide_eq_true c21
                clear c21
                replace H := Option.bind_eq_some_iff.mp H
                obtain ⟨t1012, A220, H⟩ := H
                replace H : (spec_l2Parts.l2 k2 a1 (rd_L3 t1001 x23_1) x10_2 x11_2 t1012 x11_2 (rd_L3 t1001 x23_1) ((rd_L3 t1001 x23_1).length : Int) x35_2) = some (r1, r2) := H
                have A22 := am_ A220
                clear A220
                have H' := am_ H
                clear H
                have p1010 : 0 ≤ (x35_2 : Int) := od_
                have q1010 : x35_2 < ((rd_L3 t1001 x23_1).length : Int) := od_
                obtain ⟨ad1010, e1010, hx1010_0⟩ := Kd.at_int HR1005_0.out x35_2 p1010 q1010
                cases e1010
                replace p1010 := eq_true p1010
                replace q1010 := eq_true q1010
                obtain ⟨i023, hi023, _, hsz23, _⟩ := info_parts info3
                obtain ⟨A23, hcut23, hA23, hC23⟩ := print_drop_of (P := Try.prog) (Value.int .i64) 0 64 3 .i64 Try.underlying64 hi023 hsz23 (some ad1010) c1005_0 (rd_L3 t1001 x23_1) (ji19) (od_) (od_) HC1005_0.out
                have HR1011 := am_ (Kd.C_of_reads (h1 := fun _ => rfl) (hA23 _ (Kd.reads_of_C HR1005_0.out)))
                have HC1011 := am_ hC23
                clear hA23 hC23 hi023 hsz23
                go_wp2_with (first | ((with_reducible refine gate_callee (f := 116) rfl ?_); refine goesL_ (some 49) rfl rfl Try.func116 (by kernel_rfl) rfl #[.slice A23 ((rd_L3 t1001 x23_1).drop ((ji19) : Int).toNat).length (c1005_0 - (ji19).toNat), .string a1] rfl (by (try simp only [List.map_toArray, List.map_cons, List.map_nil]); first | done | (rw [show ((rd_L3 t1001 x23_1).drop ((ji19) : Int).toNat).length = ((rd_L3 t1001 x23_1).length - (ji19).toNat) from List.length_drop] <;> rfl) | (simp only [hji19]; rfl) | rfl | (simp only [List.length_drop, List.length_take]; rfl)) ?_; (with_reducible refine (spec_l2Rest.calls k2 _ _ ((rd_L3 t1001 x23_1).drop ((ji19) : Int).toNat) a1 t1012 _ ?side1 ?side2 A22.out).mono ?_); (case side1 => exact cc_ HR1011.out); (case side2 => exact HC1011.out); rintro e w24 ⟨v1013, rfl, ho0, hb⟩; refine ⟨_, rfl, ?_⟩; have n7_ := am_ (Kd.R_below (ro_ HL1005_0) hb); clear HL1005_0 HR1005_0 HR1011; have HL1005_0 := n7_; clear n7_; have n0_ := am_ (Kd.R_below (ro_ HO_10) hb); have n1_ := am_ (Kd.R_lower ho0 (below_size bl_)); have n2_ := am_ (below_step bl_ hb); clear HO_10; clear HB; have HO_10 := n0_; have HO1014 := n1_; have HB := n2_; clear n0_ n1_ n2_; (try clear hb); (try clear hb2); (try clear hk); (try clear hi); (try clear ho0)))
                go_loopg [15] k2 (fun kq v15 w' => ∃ (x15_3 : Int), v15 = .int .i64 x15_3 ∧ Aside0 (spec_l2Parts.l2 kq a1 (rd_L3 t1001 x23_1) x10_2 x11_2 t1012 x15_3 (rd_L3 t1001 x23_1) ((rd_L3 t1001 x23_1).length : Int) x35_2 = some (r1, r2)) ∧ Aside0 (kq ≤ k2) ∧ Aside0 (Kd.R Kd.string 9 w' w.heap.size (fun _ => True) u10 x10_2) ∧ Aside0 (Kd.R Kd.bool 4 w' w.heap.size (fun _ => True) v1013 t1012) ∧ Aside0 (Kd.R (Kd.int .i64) 3 w' w.heap.size (fun _ => True) (.slice (some ad1010) (rd_L3 t1001 x23_1).length c1005_0) (rd_L3 t1001 x23_1)) ∧ Aside0 (Below w.heap.size w w'))
                case atStart => exact ⟨(x11_2), rs_, H', ⟨Nat.le_refl _⟩, ⟨ro_ HO_10⟩, ⟨ro_ HO1014⟩, ⟨ro_ HL1005_0⟩, ⟨bl_⟩⟩
                case round =>
                 clear H'
                 try clear c1
                 try clear p1
                 try clear q1
                 try clear hx1
                 try clear qi1
                 try clear c2
                 try clear p2
                 try clear c6
                 try clear c6b0
                 try clear p6
                 try clear c7
                 try clear c7b0
                 try clear c8
                 try clear c8b0
                 try clear c10
                 try clear c10b0
                 try clear c10b1
                 try clear p10
                 try clear q10
                 try clear hx10
                 try clear qi10
                 try clear c11
                 try clear q11
                 try clear c12
                 try clear c15
                 try clear c15b0
                 try clear c16
                 try clear c16b0
                 try clear c17
                 try clear c17b0
                 try clear c18
                 try clear c18b0
                 try clear c18b1
                 try clear c20
                 try clear c20b0
                 try clear c20b1
                 try clear c21
                 try clear c21b0
                 try clear c21b1
                 try clear hx1005_0
                 try clear hx1009_0
                 try clear hx1010_0
                 try clear p1
                 try clear p10
                 try clear p1005
                 try clear p1009
                 try clear p1010
                 try clear p2
                 try clear p6
                 try clear q1
                 try clear q10
                 try clear q1005
                 try clear q1009
                 try clear q1010
                 try clear q11
                 obtain ⟨x15_3, rfl, HA, HK3, HO_10, HO_14, HL1005_0, HB⟩ := hrel
                 have HR1005_0 := am_ (Kd.R_reads' HL1005_0.out).2.2
                 cases gk with
                 | zero => exact absurd HA.out (by simp [spec_l2Parts.l2])
                 | succ k3 =>
                  have H := HA.out
                  clear HA
                  simp only [spec_l2Parts.l2] at H
                  by_cases c25 : 0 ≤ x15_3
                  ·rw [if_pos c25] at H
                   have c25b0 : decide (0 ≤ x15_3) = true := decide_eq_true c25
                   clear c25
                   by_cases c26 : x15_3 < (t1012.length : Int)
                   ·rw [if_pos c26] at H
                    have c26b0 : decide (x15_3 < (t1012.length : Int)) = true := decide_eq_true c26
                    clear c26
                    obtain ⟨bq27, hbq27⟩ : ∃ b_ : Bool, b_ = (rdOf false t1012 x15_3) := ⟨_, rfl⟩
                    replace H : (if bq27 = true then (if 0 ≤ x11_2 then (if x11_2 ≤ x15_3 then (if x15_3 ≤ (a1.size : Int) then (if x10_2.length < 8796093022208 then (spec_l2Parts.l1 k3 a1 (rd_L3 t1001 x23_1) (x10_2 ++ [a1.extract (x11_2 : Int).toNat (x15_3 : Int).toNat]) x15_3 (rd_L3 t1001 x23_1) ((rd_L3 t1001 x23_1).length : Int) (wrap64 (x35_2 + 1))) else (none)) else (none)) else (none)) else (none)) else (spec_l2Parts.l2 k3 a1 (rd_L3 t1001 x23_1) x10_2 x11_2 t1012 (wrap64 (x15_3 + 1)) (rd_L3 t1001 x23_1) ((rd_L3 t1001 x23_1).length : Int) x35_2)) = some (r1, r2) := by rw [← hbq27] at H; exact H
                    have Nbq27 := am_ hbq27
                    clear hbq27
                    by_cases c28 : bq27 = true
                    ·subst c28
                     have H1 : (if 0 ≤ x11_2 then (if x11_2 ≤ x15_3 then (if x15_3 ≤ (a1.size : Int) then (if x10_2.length < 8796093022208 then (spec_l2Parts.l1 k3 a1 (rd_L3 t1001 x23_1) (x10_2 ++ [a1.extract (x11_2 : Int).toNat (x15_3 : Int).toNat]) x15_3 (rd_L3 t1001 x23_1) ((rd_L3 t1001 x23_1).length : Int) (wrap64 (x35_2 + 1))) else (none)) else (none)) else (none)) else (none)) = some (r1, r2) := by rw [if_pos rfl] at H; exact H
                     clear H
                     have H := H1
                     clear H1
                     by_cases c29 : 0 ≤ x11_2
                     ·rw [if_pos c29] at H
                      have c29b0 := eq_true c29
                      have c29b1 : decide (0 ≤ x11_2) = true := decide_eq_true c29
                      clear c29
                      by_cases c30 : x11_2 ≤ x15_3
                      ·rw [if_pos c30] at H
                       have c30b0 := eq_true c30
                       have c30b1 : decide (x11_2 ≤ x15_3) = true := decide_eq_true c30
                       clear c30
                       by_cases c31 : x15_3 ≤ (a1.size : Int)
                       ·rw [if_pos c31] at H
                        have c31b0 := eq_true c31
                        have c31b1 : decide (x15_3 ≤ (a1.size : Int)) = true := decide_eq_true c31
                        clear c31
                        by_cases c32 : x10_2.length < 8796093022208
                        ·rw [if_pos c32] at H
                         have LMc32 := am_ c32
                         clear c32
                         obtain ⟨y1016, hy1016⟩ : ∃ y_ : List ByteArray, y_ = (x10_2 ++ [a1.extract (x11_2 : Int).toNat (x15_3 : Int).toNat]) := ⟨_, rfl⟩
                         replace H : (spec_l2Parts.l1 k3 a1 (rd_L3 t1001 x23_1) y1016 x15_3 (rd_L3 t1001 x23_1) ((rd_L3 t1001 x23_1).length : Int) (wrap64 (x35_2 + 1))) = some (r1, r2) := by first | (rw [hy1016]; with_reducible exact H) | (have H2_ := (Option.bind_some _ _).symm.trans H; rw [hy1016]; with_reducible exact H2_) | (have H2_ := (Option.bind_some _ _).symm.trans H; with_reducible exact H2_) | with_reducible exact H | (rw [hy1016]; exact H) | exact H
                         have Ny1016 := am_ hy1016
                         clear hy1016
                         have H' := am_ H
                         clear H
                         obtain ⟨Ao33, co33, eo33⟩ := Kd.R_slice HO_14.out
                         subst eo33
                         have p1015 : 0 ≤ (x15_3 : Int) := od_
                         have q1015 : x15_3 < (t1012.length : Int) := od_
                         obtain ⟨ad1015, e1015, hx1015_0⟩ := Kd.at_bool (Kd.R_reads' HO_14.out).2.2 x15_3 p1015 q1015
                         (try rw [← Nbq11.out] at hx1015_0)
                         (try rw [← Nbq27.out] at hx1015_0)
                         cases e1015
                         replace p1015 := eq_true p1015
                         replace q1015 := eq_true q1015
                         go_wp2_with (first | ((with_reducible refine gate_builtin (b := .append) (xs := #[.tmp 58, .tmp 63]) rfl ?_); at_builtin; refine Kd.R_append Kd.string (w0 := w) w.heap.size rfl (.tmp 58) (.tmp 63) 22 9 (.string ⟨#[]⟩) 16 rfl Try.underlying22 info9 rfl (by decide) (by omega) u10 x10_2 (a1.extract (x11_2 : Int).toNat (x15_3 : Int).toNat) [.string (a1.extract (x11_2 : Int).toNat (x15_3 : Int).toNat)] (fun _ => True) (fun _ => False) rfl rfl ?aP (fun _ hk => hk.elim) ?aF ?aO ?aB ?aS ?aL ?_; (case aP => exact rfl); (case aB => exact bl_); (case aF => exact (fun _ _ => trivial)); (case aO => exact (ro_ HO_10)); (case aS => exact (below_size bl_)); (case aL => have := LMc32.out; omega); intro v1017 w34 ho hb hg hat; have n7_ := am_ (Kd.R_over' (ro_ HL1005_0) (Kd.R_typed (ro_ HO_10)) (by decide) hg); clear HL1005_0; have HL1005_0 := n7_; clear n7_; rw [← Ny1016.out] at ho; have n0_ := am_ (Kd.R_over' (ro_ HO_14) (Kd.R_typed (ro_ HO_10)) (by decide) hg); have n1_ := am_ (hb); have n2_ := am_ (ho); clear HO_14; clear HB; clear HO_10; have HO_14 := n0_; have HB := n1_; have HO1018 := n2_; clear n0_ n1_ n2_; clear ho hb hg hat))
                         go_roundg k3
                         case measure => have := HK1.out; have := HK2.out; have := HK3.out; omega
                         case rel => exact ⟨(y1016), (x15_3), (wrap64 (x35_2 + 1)), rs_, rs_, H', ⟨by have := HK1.out; have := HK2.out; have := HK3.out; omega⟩, ⟨ro_ HO1018⟩, ⟨ro_ HL1005_0⟩, ⟨bl_⟩⟩
                        ·rw [if_neg c32] at H
                         exact absurd H (by simp)
                       ·rw [if_neg c31] at H
                        exact absurd H (by simp)
                      ·rw [if_neg c30] at H
                       exact absurd H (by simp)
                     ·rw [if_neg c29] at H
                      exact absurd H (by simp)
                    ·replace c28 := Bool.eq_false_iff.mpr c28
                     subst c28
                     have H1 : (spec_l2Parts.l2 k3 a1 (rd_L3 t1001 x23_1) x10_2 x11_2 t1012 (wrap64 (x15_3 + 1)) (rd_L3 t1001 x23_1) ((rd_L3 t1001 x23_1).length : Int) x35_2) = some (r1, r2) := by rw [if_neg (show ¬ (false = true) by decide)] at H; exact H
                     clear H
                     have H := H1
                     clear H1
                     have H' := am_ H
                     clear H
                     obtain ⟨Ao35, co35, eo35⟩ := Kd.R_slice HO_14.out
                     subst eo35
                     have p1015 : 0 ≤ (x15_3 : Int) := od_
                     have q1015 : x15_3 < (t1012.length : Int) := od_
                     obtain ⟨ad1015, e1015, hx1015_0⟩ := Kd.at_bool (Kd.R_reads' HO_14.out).2.2 x15_3 p1015 q1015
                     (try rw [← Nbq11.out] at hx1015_0)
                     (try rw [← Nbq27.out] at hx1015_0)
                     cases e1015
                     replace p1015 := eq_true p1015
                     replace q1015 := eq_true q1015
                     go_wp2
                     go_roundg k3
                     case measure => have := HK1.out; have := HK2.out; have := HK3.out; omega
                     case rel => exact ⟨(wrap64 (x15_3 + 1)), rs_, H', ⟨by have := HK1.out; have := HK2.out; have := HK3.out; omega⟩, ⟨ro_ HO_10⟩, ⟨ro_ HO_14⟩, ⟨ro_ HL1005_0⟩, ⟨bl_⟩⟩
                   ·rw [if_neg c26] at H
                    exact absurd H (by simp)
                  ·rw [if_neg c25] at H
                   exact absurd H (by simp)
               ·rw [if_neg c21] at H
                exact absurd H (by simp)
              ·rw [if_neg c20] at H
               exact absurd H (by simp)
             ·rw [if_neg c18] at H
              have c18b0 : ((rd (rd_L3 t1001 x23_1) x35_2) == (-1)) = false := beq_eq_false_iff_ne.mpr c18
              have c18b1 : ((rd (rd_L3 t1001 x23_1) x35_2) != (-1)) = true := bne_iff_ne.mpr c18
              have H' := am_ H
              clear H
              have p1010 : 0 ≤ (x35_2 : Int) := od_
              have q1010 : x35_2 < ((rd_L3 t1001 x23_1).length : Int) := od_
              obtain ⟨ad1010, e1010, hx1010_0⟩ := Kd.at_int HR1005_0.out x35_2 p1010 q1010
              cases e1010
              replace p1010 := eq_true p1010
              replace q1010 := eq_true q1010
              go_wp2
              go_roundg k2
              case measure => have := HK1.out; have := HK2.out; omega
              case rel => exact ⟨(x10_2), (wrap64 (x11_2 + 1)), (wrap64 (x35_2 + 1)), rs_, rs_, H', ⟨by have := HK1.out; have := HK2.out; omega⟩, ⟨ro_ HO_10⟩, ⟨ro_ HL1005_0⟩, ⟨bl_⟩⟩
            ·rw [if_neg c17] at H
             exact absurd H (by simp)
           ·rw [if_neg c16] at H
            exact absurd H (by simp)
          ·rw [if_neg c15] at H
           have c15b0 : decide (x35_2 < ((rd_L3 t1001 x23_1).length : Int)) = false := decide_eq_false c15
           clear c15
           simp only [Option.some.injEq, Prod.mk.injEq] at H
           obtain ⟨rfl, rfl⟩ := H
           go_wp2
           go_ret2
           exact ⟨_, rf_, by (with_reducible repeat (first | apply Kd.R_alloc | apply Kd.R_drewN | apply Kd.R_drew)); exact HO_10.out, bl_⟩
       ·replace c12 := Bool.eq_false_iff.mpr c12
        subst c12
        have H1 : (spec_l2Parts.l0 k1 a1 t1001 (t1001.length : Int) (wrap64 (x23_1 + 1))) = some (r1, r2) := by rw [if_neg (show ¬ (false = true) by decide)] at H; exact H
        clear H
        have H := H1
        clear H1
        have H' := am_ H
        clear H
        have p1005 : 0 ≤ (x23_1 : Int) := od_
        have q1005 : x23_1 < (t1001.length : Int) := od_
        obtain ⟨ad1005, A1005_0, c1005_0, e1005, hx1005_0, hl1005_0, hi1005_0⟩ := at_L3 (Kd.S_reads' HO_21.out).2.2 x23_1 p1005 q1005
        cases e1005
        obtain ⟨ce1005, hce1005, hMe1005, hcc1005⟩ := Kd.S_get HO_21.out [] x23_1 p1005 (by first | exact q1005 | exact od_ | (have e_ := (Kd.S_reads' HO_21.out).1; omega))
        obtain ⟨ve1005_0, rfl, ge1005_0⟩ := hMe1005
        have hv1005_0 := hcc1005 0 _ rfl
        rw [Nat.add_zero, show ((Kd.slice 3 (Kd.int .i64))).sz = 1 from rfl, Nat.mul_one] at hv1005_0
        replace hv1005_0 := Option.some.inj (hv1005_0.symm.trans hx1005_0)
        rw [hv1005_0] at ge1005_0
        have HL1005_0 := am_ (show Kd.R (Kd.int .i64) 3 _ _ _ _ (rd_L3 t1001 x23_1) from ge1005_0)
        clear hv1005_0 ge1005_0
        clear hcc1005 hce1005
        have HR1005_0 := am_ hi1005_0
        have HC1005_0 := am_ hl1005_0
        clear hi1005_0 hl1005_0
        replace p1005 := eq_true p1005
        replace q1005 := eq_true q1005
        go_wp2_with (first | ((with_reducible refine gate_callee (f := 116) rfl ?_); refine goesL_ (some 29) rfl rfl Try.func116 (by kernel_rfl) rfl #[.slice A1005_0 (rd_L3 t1001 x23_1).length c1005_0, .string a1] rfl ag_ ?_; (with_reducible refine (spec_l2Rest.calls k1 _ _ (rd_L3 t1001 x23_1) a1 t1006 _ ?side1 ?side2 A9.out).mono ?_); (case side1 => repeat (first | exact (by repeat (first | (with_reducible exact HR1005_0.out) | (with_reducible refine Kd.C_alloc ?_ _) | (with_reducible refine Kd.C_drewN ?_ _) | (with_reducible refine Kd.C_drew ?_) | exact HR1005_0.out)) | (with_reducible refine Kd.C_alloc ?_ _) | (with_reducible refine Kd.C_drewN ?_ _) | (with_reducible refine Kd.C_drew ?_))); (case side2 => exact HC1005_0.out); rintro e w36 ⟨v1007, rfl, ho0, hb⟩; refine ⟨_, rfl, ?_⟩; have n0_ := am_ (Kd.S_below (by (with_reducible repeat (first | apply Kd.S_alloc | apply Kd.S_drewN | apply Kd.S_drew)); exact HO_21.out) hb); have n1_ := am_ (Kd.R_below (ro_ HL1005_0) hb); have n2_ := am_ (Kd.R_lower ho0 (below_size bl_)); have n3_ := am_ (Kd.C_below (by repeat (first | (with_reducible exact HR1005_0.out) | (with_reducible refine Kd.C_alloc ?_ _) | (with_reducible refine Kd.C_drewN ?_ _) | (with_reducible refine Kd.C_drew ?_) | exact HR1005_0.out)) hb); have n4_ := am_ (below_step bl_ hb); clear HO_21; clear HL1005_0; clear HR1005_0; clear HB; have HO_21 := n0_; have HL1005_0 := n1_; have HO1008 := n2_; have HR1005_0 := n3_; have HB := n4_; clear n0_ n1_ n2_ n3_ n4_; (try clear hb); (try clear hb2); (try clear hk); (try clear hi); (try clear ho0); obtain ⟨Ao37, co37, eo37⟩ := Kd.R_slice HO1008.out; subst eo37; have p1009 : 0 ≤ (0 : Int) := (by omega); have q1009 : 0 < (t1006.length : Int) := od_; obtain ⟨ad1009, e1009, hx1009_0⟩ := Kd.at_bool (Kd.R_reads' HO1008.out).2.2 0 p1009 q1009; (try rw [← Nbq11.out] at hx1009_0); cases e1009; have qi1009 : (0 < t1006.length) = True := eq_true (by omega); (try rw [show ((0 : Int)).toNat = 0 from rfl] at hx1009_0); (try rw [Addr.add_zero'] at hx1009_0); replace p1009 := eq_true p1009; replace q1009 := eq_true q1009))
        go_roundg k1
        case measure => have := HK1.out; omega
        case rel => exact ⟨(wrap64 (x23_1 + 1)), rs_, H', ⟨by have := HK1.out; omega⟩, ⟨by (with_reducible repeat (first | apply Kd.S_alloc | apply Kd.S_drewN | apply Kd.S_drew)); exact HO_21.out⟩, ⟨bl_⟩⟩
      ·rw [if_neg c10] at H
       exact absurd H (by simp)
     ·rw [if_neg c8] at H
      exact absurd H (by simp)
    ·rw [if_neg c7] at H
     exact absurd H (by simp)
   ·rw [if_neg c6] at H
    have c6b0 : decide (x23_1 < (t1001.length : Int)) = false := decide_eq_false c6
    clear c6
    simp only [Option.some.injEq, Prod.mk.injEq] at H
    obtain ⟨rfl, rfl⟩ := H
    go_wp2
    go_ret2
    exact ⟨_, rf_, ni_, bl_⟩

/-! ### spec_PatternParts: function 27 -/
def spec_PatternParts.f (k : Nat) (a0 : ByteArray) (a1 : ByteArray) : Option (List ByteArray × Bool) := (spec_GoodPattern.f k a0).bind fun t1001 => (if t1001 = true then (if (a1.size : Int) > 100 then (some (([] : List ByteArray), false)) else ((spec_l2Parts.f k a0 a1).bind fun bt1002 => (some (bt1002.1, bt1002.2)))) else (some (([] : List ByteArray), false)))
theorem spec_PatternParts.mono : ∀ a0 a1 k, LeO (spec_PatternParts.f k a0 a1) (spec_PatternParts.f (k + 1) a0 a1) := by
 intro a0 a1 k
 unfold spec_PatternParts.f
 repeat' first
   | with_reducible first | exact spec_GoodPattern.mono _ _ | exact spec_l2Parts.mono _ _ _ | exact LeO.refl _ | exact LeO.none _ | refine LeO.ite ?_ ?_ | refine LeO.bind ?_ (fun _ => ?_)
   | exact spec_GoodPattern.mono _ _
   | exact spec_l2Parts.mono _ _ _
   | exact LeO.none _
   | refine LeO.ite ?_ ?_
   | refine LeO.bind ?_ (fun _ => ?_)
set_option maxHeartbeats 8000000 in
set_option maxRecDepth 100000 in
theorem spec_PatternParts.calls (k : Nat) (a0 : ByteArray) (a1 : ByteArray) (r1 : List ByteArray) (r2 : Bool) (w : World) (h : spec_PatternParts.f k a0 a1 = some (r1, r2)) :
  Calls Try.prog 27 #[.string a0, .string a1] w fun e w' => ∃ v0_ : Value, e = .returned (.tuple #[v0_, .bool r2]) ∧ Kd.R Kd.string 9 w' w.heap.size (fun _ => True) v0_ r1 ∧ Below w.heap.size w w' := by
 have HB := am_ (Below.refl w.heap.size w)
 have H : ((spec_GoodPattern.f k a0).bind fun t1001 => (if t1001 = true then (if (a1.size : Int) > 100 then (some (([] : List ByteArray), false)) else ((spec_l2Parts.f k a0 a1).bind fun bt1002 => (some (bt1002.1, bt1002.2)))) else (some (([] : List ByteArray), false)))) = some (r1, r2) := h
 clear h
 replace H := Option.bind_eq_some_iff.mp H
 obtain ⟨t1001, A30, H⟩ := H
 replace H : (if t1001 = true then (if (a1.size : Int) > 100 then (some (([] : List ByteArray), false)) else ((spec_l2Parts.f k a0 a1).bind fun bt1002 => (some (bt1002.1, bt1002.2)))) else (some (([] : List ByteArray), false))) = some (r1, r2) := H
 have A3 := am_ A30
 clear A30
 by_cases c4 : t1001 = true
 ·subst c4
  have H1 : (if (a1.size : Int) > 100 then (some (([] : List ByteArray), false)) else ((spec_l2Parts.f k a0 a1).bind fun bt1002 => (some (bt1002.1, bt1002.2)))) = some (r1, r2) := by rw [if_pos rfl] at H; exact H
  clear H
  have H := H1
  clear H1
  by_cases c5 : (a1.size : Int) > 100
  ·rw [if_pos c5] at H
   have c5b0 : decide (100 < (a1.size : Int)) = true := decide_eq_true c5
   have c5b1 : decide (100 < a1.size) = true := decide_eq_true (by omega)
   clear c5
   simp only [Option.some.injEq, Prod.mk.injEq] at H
   obtain ⟨rfl, rfl⟩ := H
   go_enter Try.func27, Try.ntmps27
   go_wp2_with (first | ((with_reducible refine gate_callee (f := 67) rfl ?_); refine goesL_ (some 7) rfl rfl Try.func67 (by kernel_rfl) rfl #[.string a0] rfl ag_ ?_; (with_reducible refine (spec_GoodPattern.calls k a0 true _ A3.out).mono ?_); rintro e w6 ⟨rfl, hb⟩; refine ⟨_, rfl, ?_⟩; have n0_ := am_ (below_step bl_ hb); clear HB; have HB := n0_; clear n0_; (try clear hb); (try clear hb2); (try clear hk); (try clear hi)))
   go_ret2
   exact ⟨_, rf_, ni_, bl_⟩
  ·rw [if_neg c5] at H
   have c5b0 : decide (100 < (a1.size : Int)) = false := decide_eq_false c5
   have c5b1 : decide (100 < a1.size) = false := decide_eq_false (by omega)
   clear c5
   replace H := Option.bind_eq_some_iff.mp H
   obtain ⟨⟨t1002, t1003⟩, A70, H⟩ := H
   replace H : (some (t1002, t1003)) = some (r1, r2) := H
   have A7 := am_ A70
   clear A70
   simp only [Option.some.injEq, Prod.mk.injEq] at H
   obtain ⟨rfl, rfl⟩ := H
   go_enter Try.func27, Try.ntmps27
   go_wp2_with (first | ((with_reducible refine gate_callee (f := 67) rfl ?_); refine goesL_ (some 7) rfl rfl Try.func67 (by kernel_rfl) rfl #[.string a0] rfl ag_ ?_; (with_reducible refine (spec_GoodPattern.calls k a0 true _ A3.out).mono ?_); rintro e w8 ⟨rfl, hb⟩; refine ⟨_, rfl, ?_⟩; have n0_ := am_ (below_step bl_ hb); clear HB; have HB := n0_; clear n0_; (try clear hb); (try clear hb2); (try clear hk); (try clear hi)) | ((with_reducible refine gate_callee (f := 77) rfl ?_); refine goesL_ (some 16) rfl rfl Try.func77 (by kernel_rfl) rfl #[.string a0, .string a1] rfl ag_ ?_; (with_reducible refine (spec_l2Parts.calls k a0 a1 t1002 t1003 _ A7.out).mono ?_); rintro e w9 ⟨v1004, rfl, ho0, hb⟩; refine ⟨_, rfl, ?_⟩; have n0_ := am_ (Kd.R_lower ho0 (below_size bl_)); have n1_ := am_ (below_step bl_ hb); clear HB; have HO1005 := n0_; have HB := n1_; clear n0_ n1_; (try clear hb); (try clear hb2); (try clear hk); (try clear hi); (try clear ho0)))
   go_ret2
   exact ⟨_, rf_, by (with_reducible repeat (first | apply Kd.R_alloc | apply Kd.R_drewN | apply Kd.R_drew)); exact HO1005.out, bl_⟩
 ·replace c4 := Bool.eq_false_iff.mpr c4
  subst c4
  have H1 : (some (([] : List ByteArray), false)) = some (r1, r2) := by rw [if_neg (show ¬ (false = true) by decide)] at H; exact H
  clear H
  have H := H1
  clear H1
  simp only [Option.some.injEq, Prod.mk.injEq] at H
  obtain ⟨rfl, rfl⟩ := H
  go_enter Try.func27, Try.ntmps27
  go_wp2_with (first | ((with_reducible refine gate_callee (f := 67) rfl ?_); refine goesL_ (some 7) rfl rfl Try.func67 (by kernel_rfl) rfl #[.string a0] rfl ag_ ?_; (with_reducible refine (spec_GoodPattern.calls k a0 false _ A3.out).mono ?_); rintro e w10 ⟨rfl, hb⟩; refine ⟨_, rfl, ?_⟩; have n0_ := am_ (below_step bl_ hb); clear HB; have HB := n0_; clear n0_; (try clear hb); (try clear hb2); (try clear hk); (try clear hi)))
  go_ret2
  exact ⟨_, rf_, ni_, bl_⟩

/-! ### laws_heldStringS: function 30 -/
def laws_heldStringS.l0 : Nat → List ByteArray → Int → Int → Option (Int)
 | 0, _, _, _ => none
 | k + 1, x0, x1, x5 => if x5 < (x0.length : Int) then (if 0 ≤ x5 then ((laws_markText.f k x1).bind fun t1002 => (if (rdOf ByteArray.empty x0 x5).toList = t1002.toList then (laws_heldStringS.l0 k x0 (wrap64 (x1 + 1)) (wrap64 (x5 + 1))) else (some (-1)))) else (none)) else (some x1)
def laws_heldStringS.f (k : Nat) (l0 : List ByteArray) (a1 : Int) : Option (Int) := laws_heldStringS.l0 k l0 a1 0
theorem laws_heldStringS.mono_l : ∀ k, (∀ y0 y1 y2, LeO (laws_heldStringS.l0 k y0 y1 y2) (laws_heldStringS.l0 (k + 1) y0 y1 y2))
 | 0 => fun _ _ _ r h => by simp [laws_heldStringS.l0] at h
 | k + 1 => by
  have ih0 := laws_heldStringS.mono_l k
  ·intro y0 y1 y2
   unfold laws_heldStringS.l0
   repeat' first
   | with_reducible first | exact ih0 _ _ _ | exact laws_markText.mono _ _ | exact LeO.refl _ | exact LeO.none _ | refine LeO.ite ?_ ?_ | refine LeO.bind ?_ (fun _ => ?_)
   | exact ih0 _ _ _
   | exact laws_markText.mono _ _
   | exact LeO.none _
   | refine LeO.ite ?_ ?_
   | refine LeO.bind ?_ (fun _ => ?_)
theorem laws_heldStringS.mono : ∀ a0 a1 k, LeO (laws_heldStringS.f k a0 a1) (laws_heldStringS.f (k + 1) a0 a1) := by
 intro a0 a1 k
 have ih0 := laws_heldStringS.mono_l k
 unfold laws_heldStringS.f
 repeat' first
   | with_reducible first | exact ih0 _ _ _ | exact laws_markText.mono _ _ | exact LeO.refl _ | exact LeO.none _ | refine LeO.ite ?_ ?_ | refine LeO.bind ?_ (fun _ => ?_)
   | exact ih0 _ _ _
   | exact laws_markText.mono _ _
   | exact LeO.none _
   | refine LeO.ite ?_ ?_
   | refine LeO.bind ?_ (fun _ => ?_)
set_option maxHeartbeats 8000000 in
set_option maxRecDepth 100000 in
theorem laws_heldStringS.calls (k : Nat) (A0 : Option Addr) (c0 : Nat) (l0 : List ByteArray) (a1 : Int) (r : Int) (w : World) (hr0 : Kd.C Kd.string w A0 l0.length l0) (hc0 : l0.length ≤ c0) (h : laws_heldStringS.f k l0 a1 = some r) :
  Calls Try.prog 30 #[.slice A0 l0.length c0, .int .i64 a1] w fun e w' => e = .returned (.int .i64 r) ∧ Below w.heap.size w w' := by
 have HR0 := am_ hr0
 have HC0 := am_ hc0
 clear hr0 hc0
 have HB := am_ (Below.refl w.heap.size w)
 have H : (laws_heldStringS.l0 k l0 a1 0) = some r := h
 clear h
 have H' := am_ H
 clear H
 go_enter Try.func30, Try.ntmps30
 go_wp2
 go_loopg [1, 5] k (fun kq v1 v5 w' => ∃ (x1_1 : Int) (x5_1 : Int), v1 = .int .i64 x1_1 ∧ v5 = .int .i64 x5_1 ∧ Aside0 (laws_heldStringS.l0 kq l0 x1_1 x5_1 = some r) ∧ Aside0 (kq ≤ k) ∧ Aside0 (Below w.heap.size w w'))
 case atStart => exact ⟨(a1), (0), rs_, rs_, H', ⟨Nat.le_refl _⟩, ⟨bl_⟩⟩
 case round =>
  clear H'
  try clear p2
  obtain ⟨x1_1, x5_1, rfl, rfl, HA, HK1, HB⟩ := hrel
  cases gk with
  | zero => exact absurd HA.out (by simp [laws_heldStringS.l0])
  | succ k1 =>
   have H := HA.out
   clear HA
   simp only [laws_heldStringS.l0] at H
   by_cases c3 : x5_1 < (l0.length : Int)
   ·rw [if_pos c3] at H
    have c3b0 : decide (x5_1 < (l0.length : Int)) = true := decide_eq_true c3
    clear c3
    by_cases c4 : 0 ≤ x5_1
    ·rw [if_pos c4] at H
     have c4b0 : decide (0 ≤ x5_1) = true := decide_eq_true c4
     clear c4
     replace H := Option.bind_eq_some_iff.mp H
     obtain ⟨t1002, A50, H⟩ := H
     replace H : (if (rdOf ByteArray.empty l0 x5_1).toList = t1002.toList then (laws_heldStringS.l0 k1 l0 (wrap64 (x1_1 + 1)) (wrap64 (x5_1 + 1))) else (some (-1))) = some r := H
     have A5 := am_ A50
     clear A50
     by_cases c6 : (rdOf ByteArray.empty l0 x5_1).toList = t1002.toList
     ·rw [if_pos c6] at H
      have c6b0 : ((rdOf ByteArray.empty l0 x5_1).toList == t1002.toList) = true := beq_iff_eq.mpr c6
      have c6b1 : ((rdOf ByteArray.empty l0 x5_1).toList != t1002.toList) = false := bne_eq_false_iff_eq.mpr c6
      clear c6
      have H' := am_ H
      clear H
      try go_wp2
      have n0_ := am_ (below_drew1 HB.out)
      clear HB
      have HB := n0_
      clear n0_
      have p1001 : 0 ≤ (x5_1 : Int) := od_
      have q1001 : x5_1 < (l0.length : Int) := od_
      obtain ⟨ad1001, e1001, hx1001_0⟩ := Kd.at_string HR0.out x5_1 p1001 q1001
      have hw1001_0 := hx1001_0
      cases e1001
      replace hx1001_0 := kp_ HB hx1001_0
      replace p1001 := eq_true p1001
      replace q1001 := eq_true q1001
      refine start_ (n := 7) (S := fun w' => w'.cell? (ad1001.add (x5_1).toNat) = some (.string (rdOf ByteArray.empty l0 x5_1))) (ds := []) (bz 7 0) (by kernel_rfl) rfl rfl ((kp_ HB hw1001_0)) (fun hHeld => ?_)
      generalize wr.drew = w7 at HB hx1001_0 hHeld ⊢
      refine pure_ (i := 0) (N := some 12) (v := ?_) (a' := ?_) (bz 7 1) rfl rfl (by kernel_rfl) (fun _ _ _ h => h) (Or.inl ⟨by rfl, ?_⟩) ?_ ?_
      rotate_left
      ·intro w'
       go_simp
       with_reducible rfl
      rotate_left
      ·simp only [Act.put, List.setIfInBounds_toArray, List.set_cons_zero, List.set_cons_succ, i64_w, i32_w]
       rfl
      refine pure_ (i := 1) (N := some 13) (v := ?_) (a' := ?_) (bz 7 3) rfl rfl (by kernel_rfl) (fun _ _ _ h => h) (Or.inl ⟨by rfl, ?_⟩) ?_ ?_
      rotate_left
      ·intro w'
       go_simp
       with_reducible rfl
      rotate_left
      ·simp only [Act.put, List.setIfInBounds_toArray, List.set_cons_zero, List.set_cons_succ, i64_w, i32_w]
       rfl
      refine pure_ (i := 2) (N := some 14) (v := ?_) (a' := ?_) (bz 7 7) rfl rfl (by kernel_rfl) (fun _ _ _ h => h) (Or.inl ⟨by rfl, ?_⟩) ?_ ?_
      rotate_left
      ·intro w'
       go_simp
       with_reducible rfl
      rotate_left
      ·simp only [Act.put, List.setIfInBounds_toArray, List.set_cons_zero, List.set_cons_succ, i64_w, i32_w]
       rfl
      refine pure_ (i := 4) (N := some 16) (v := ?_) (a' := ?_) (bz 7 23) rfl rfl (by kernel_rfl) (fun _ _ _ h => h) (Or.inl ⟨by rfl, ?_⟩) ?_ ?_
      rotate_left
      ·intro w'
       go_simp
       with_reducible rfl
      rotate_left
      ·simp only [Act.put, List.setIfInBounds_toArray, List.set_cons_zero, List.set_cons_succ, i64_w, i32_w]
       rfl
      refine take_ (i := 3) (N := some 15) (v := ?_) (a' := ?_) (bz 7 31) rfl rfl (by kernel_rfl) (fun _ _ _ h => h) (Or.inl ⟨by rfl, ?_⟩) hHeld ?_ ?_
      rotate_left
      ·intro w' s0
       go_simp
       with_reducible rfl
      rotate_left
      ·simp only [Act.put, List.setIfInBounds_toArray, List.set_cons_zero, List.set_cons_succ, i64_w, i32_w]
       rfl
      refine one_ (i := 5) (N := some 17) (bz 7 63) rfl rfl (by kernel_rfl) (by decide) (fun K hK => ?_)
      refine goes_ Try.func80 (by kernel_rfl) rfl #[.int .i64 x1_1] (by rfl) rfl rfl ag_ ?_
      with_reducible refine (laws_markText.calls k1 x1_1 t1002 _ A5.out).mono ?_
      rintro e w8 ⟨rfl, hb⟩
      refine ⟨_, rfl, ?_⟩
      have n0_ := am_ (below_step bl_ hb)
      clear HB
      have HB := n0_
      clear n0_
      (try clear hb)
      (try clear hb2)
      (try clear hk)
      (try clear hi)
      refine hK.out _ _ ((kp_ HB hw1001_0)) (fun hHeld => ?_)
      clear hK K
      refine norm_ (a' := ?_) ?_ ?_
      rotate_left
      ·show Act.put _ (some 17) _ = _
       simp only [Act.put, List.setIfInBounds_toArray, List.set_cons_zero, List.set_cons_succ, i64_w, i32_w]
       rfl
      refine pure_ (i := 6) (N := some 18) (v := ?_) (a' := ?_) (bz 7 127) rfl rfl (by kernel_rfl) (fun _ _ _ h => h) (Or.inl ⟨by rfl, ?_⟩) ?_ ?_
      rotate_left
      ·intro w'
       go_simp
       with_reducible rfl
      rotate_left
      ·simp only [Act.put, List.setIfInBounds_toArray, List.set_cons_zero, List.set_cons_succ, i64_w, i32_w]
       rfl
      refine done_ (by kernel_rfl) ?_
      try go_wp2
      go_roundg k1
      case measure => have := HK1.out; omega
      case rel => exact ⟨(wrap64 (x1_1 + 1)), (wrap64 (x5_1 + 1)), rs_, rs_, H', ⟨by have := HK1.out; omega⟩, ⟨bl_⟩⟩
     ·rw [if_neg c6] at H
      have c6b0 : ((rdOf ByteArray.empty l0 x5_1).toList == t1002.toList) = false := beq_eq_false_iff_ne.mpr c6
      have c6b1 : ((rdOf ByteArray.empty l0 x5_1).toList != t1002.toList) = true := bne_iff_ne.mpr c6
      obtain rfl := Option.some.inj H
      try go_wp2
      have n0_ := am_ (below_drew1 HB.out)
      clear HB
      have HB := n0_
      clear n0_
      have p1001 : 0 ≤ (x5_1 : Int) := od_
      have q1001 : x5_1 < (l0.length : Int) := od_
      obtain ⟨ad1001, e1001, hx1001_0⟩ := Kd.at_string HR0.out x5_1 p1001 q1001
      have hw1001_0 := hx1001_0
      cases e1001
      replace hx1001_0 := kp_ HB hx1001_0
      replace p1001 := eq_true p1001
      replace q1001 := eq_true q1001
      refine start_ (n := 7) (S := fun w' => w'.cell? (ad1001.add (x5_1).toNat) = some (.string (rdOf ByteArray.empty l0 x5_1))) (ds := []) (bz 7 0) (by kernel_rfl) rfl rfl ((kp_ HB hw1001_0)) (fun hHeld => ?_)
      generalize wr.drew = w9 at HB hx1001_0 hHeld ⊢
      refine pure_ (i := 0) (N := some 12) (v := ?_) (a' := ?_) (bz 7 1) rfl rfl (by kernel_rfl) (fun _ _ _ h => h) (Or.inl ⟨by rfl, ?_⟩) ?_ ?_
      rotate_left
      ·intro w'
       go_simp
       with_reducible rfl
      rotate_left
      ·simp only [Act.put, List.setIfInBounds_toArray, List.set_cons_zero, List.set_cons_succ, i64_w, i32_w]
       rfl
      refine pure_ (i := 1) (N := some 13) (v := ?_) (a' := ?_) (bz 7 3) rfl rfl (by kernel_rfl) (fun _ _ _ h => h) (Or.inl ⟨by rfl, ?_⟩) ?_ ?_
      rotate_left
      ·intro w'
       go_simp
       with_reducible rfl
      rotate_left
      ·simp only [Act.put, List.setIfInBounds_toArray, List.set_cons_zero, List.set_cons_succ, i64_w, i32_w]
       rfl
      refine pure_ (i := 2) (N := some 14) (v := ?_) (a' := ?_) (bz 7 7) rfl rfl (by kernel_rfl) (fun _ _ _ h => h) (Or.inl ⟨by rfl, ?_⟩) ?_ ?_
      rotate_left
      ·intro w'
       go_simp
       with_reducible rfl
      rotate_left
      ·simp only [Act.put, List.setIfInBounds_toArray, List.set_cons_zero, List.set_cons_succ, i64_w, i32_w]
       rfl
      refine pure_ (i := 4) (N := some 16) (v := ?_) (a' := ?_) (bz 7 23) rfl rfl (by kernel_rfl) (fun _ _ _ h => h) (Or.inl ⟨by rfl, ?_⟩) ?_ ?_
      rotate_left
      ·intro w'
       go_simp
       with_reducible rfl
      rotate_left
      ·simp only [Act.put, List.setIfInBounds_toArray, List.set_cons_zero, List.set_cons_succ, i64_w, i32_w]
       rfl
      refine take_ (i := 3) (N := some 15) (v := ?_) (a' := ?_) (bz 7 31) rfl rfl (by kernel_rfl) (fun _ _ _ h => h) (Or.inl ⟨by rfl, ?_⟩) hHeld ?_ ?_
      rotate_left
      ·intro w' s0
       go_simp
       with_reducible rfl
      rotate_left
      ·simp only [Act.put, List.setIfInBounds_toArray, List.set_cons_zero, List.set_cons_succ, i64_w, i32_w]
       rfl
      refine one_ (i := 5) (N := some 17) (bz 7 63) rfl rfl (by kernel_rfl) (by decide) (fun K hK => ?_)
      refine goes_ Try.func80 (by kernel_rfl) rfl #[.int .i64 x1_1] (by rfl) rfl rfl ag_ ?_
      with_reducible refine (laws_markText.calls k1 x1_1 t1002 _ A5.out).mono ?_
      rintro e w10 ⟨rfl, hb⟩
      refine ⟨_, rfl, ?_⟩
      have n0_ := am_ (below_step bl_ hb)
      clear HB
      have HB := n0_
      clear n0_
      (try clear hb)
      (try clear hb2)
      (try clear hk)
      (try clear hi)
      refine hK.out _ _ ((kp_ HB hw1001_0)) (fun hHeld => ?_)
      clear hK K
      refine norm_ (a' := ?_) ?_ ?_
      rotate_left
      ·show Act.put _ (some 17) _ = _
       simp only [Act.put, List.setIfInBounds_toArray, List.set_cons_zero, List.set_cons_succ, i64_w, i32_w]
       rfl
      refine pure_ (i := 6) (N := some 18) (v := ?_) (a' := ?_) (bz 7 127) rfl rfl (by kernel_rfl) (fun _ _ _ h => h) (Or.inl ⟨by rfl, ?_⟩) ?_ ?_
      rotate_left
      ·intro w'
       go_simp
       with_reducible rfl
      rotate_left
      ·simp only [Act.put, List.setIfInBounds_toArray, List.set_cons_zero, List.set_cons_succ, i64_w, i32_w]
       rfl
      refine done_ (by kernel_rfl) ?_
      try go_wp2
      go_ret
      exact ⟨rf_, bl_⟩
    ·rw [if_neg c4] at H
     exact absurd H (by simp)
   ·rw [if_neg c3] at H
    have c3b0 : decide (x5_1 < (l0.length : Int)) = false := decide_eq_false c3
    clear c3
    obtain rfl := Option.some.inj H
    go_wp2
    go_ret
    exact ⟨rf_, bl_⟩

/-! ### laws_FnExactPatternParts: function 6 -/
mutual
def laws_FnExactPatternParts.j0 : Nat → ByteArray → ByteArray → List ByteArray → Bool → List ByteArray → Bool → Option (Bool)
 | 0, _, _, _, _, _, _ => none
 | k + 1, x0, x1, x5, x6, x7, x39 => if x39 = true then (none) else ((laws_markStringS.f k x7 1).bind fun bt1010 => ((laws_heldStringS.f k bt1010.2 1).bind fun t1012 => (if t1012 < 0 then (none) else (if t1012 = bt1010.1 then ((impl_PatternParts.f k x0 x1).bind fun bt1013 => ((laws_eqStringS.f k bt1013.1 x5).bind fun t1017 => (if t1017 = true then (laws_FnExactPatternParts.j1 k bt1010.2 bt1010.1 (bt1013.2 != x6)) else (laws_FnExactPatternParts.j1 k bt1010.2 bt1010.1 true)))) else (none)))))
def laws_FnExactPatternParts.j1 : Nat → List ByteArray → Int → Bool → Option (Bool)
 | 0, _, _, _ => none
 | k + 1, x7, x9, x65 => if x65 = true then (none) else ((laws_heldStringS.f k x7 1).bind fun t1018 => (if t1018 < 0 then (none) else (if t1018 = x9 then (some true) else (none))))
end
def laws_FnExactPatternParts.f (k : Nat) (a0 : ByteArray) (a1 : ByteArray) : Option (Bool) := if (a0.size : Int) > 1048576 then (some true) else (if (a1.size : Int) > 1048576 then (some true) else ((spec_PatternParts.f k a0 a1).bind fun bt1001 => ((impl_PatternParts.f k a0 a1).bind fun bt1005 => ((laws_eqStringS.f k bt1005.1 bt1001.1).bind fun t1009 => (if t1009 = true then (laws_FnExactPatternParts.j0 k a0 a1 bt1001.1 bt1001.2 bt1005.1 (bt1005.2 != bt1001.2)) else (laws_FnExactPatternParts.j0 k a0 a1 bt1001.1 bt1001.2 bt1005.1 true))))))
theorem laws_FnExactPatternParts.mono_l : ∀ k, (∀ y0 y1 y2 y3 y4 y5, LeO (laws_FnExactPatternParts.j0 k y0 y1 y2 y3 y4 y5) (laws_FnExactPatternParts.j0 (k + 1) y0 y1 y2 y3 y4 y5)) ∧ (∀ y0 y1 y2, LeO (laws_FnExactPatternParts.j1 k y0 y1 y2) (laws_FnExactPatternParts.j1 (k + 1) y0 y1 y2))
 | 0 => ⟨fun _ _ _ _ _ _ r h => by simp [laws_FnExactPatternParts.j0] at h, fun _ _ _ r h => by simp [laws_FnExactPatternParts.j1] at h⟩
 | k + 1 => by
  obtain ⟨ih0, ih1⟩ := laws_FnExactPatternParts.mono_l k
  refine ⟨?_, ?_⟩
  ·intro y0 y1 y2 y3 y4 y5
   unfold laws_FnExactPatternParts.j0
   repeat' first
   | with_reducible first | exact ih0 _ _ _ _ _ _ | exact ih1 _ _ _ | exact impl_PatternParts.mono _ _ _ | exact laws_eqStringS.mono _ _ _ | exact laws_heldStringS.mono _ _ _ | exact laws_markStringS.mono _ _ _ | exact spec_PatternParts.mono _ _ _ | exact LeO.refl _ | exact LeO.none _ | refine LeO.ite ?_ ?_ | refine LeO.bind ?_ (fun _ => ?_)
   | exact ih0 _ _ _ _ _ _
   | exact ih1 _ _ _
   | exact impl_PatternParts.mono _ _ _
   | exact laws_eqStringS.mono _ _ _
   | exact laws_heldStringS.mono _ _ _
   | exact laws_markStringS.mono _ _ _
   | exact spec_PatternParts.mono _ _ _
   | exact LeO.none _
   | refine LeO.ite ?_ ?_
   | refine LeO.bind ?_ (fun _ => ?_)
  ·intro y0 y1 y2
   unfold laws_FnExactPatternParts.j1
   repeat' first
   | with_reducible first | exact ih0 _ _ _ _ _ _ | exact ih1 _ _ _ | exact impl_PatternParts.mono _ _ _ | exact laws_eqStringS.mono _ _ _ | exact laws_heldStringS.mono _ _ _ | exact laws_markStringS.mono _ _ _ | exact spec_PatternParts.mono _ _ _ | exact LeO.refl _ | exact LeO.none _ | refine LeO.ite ?_ ?_ | refine LeO.bind ?_ (fun _ => ?_)
   | exact ih0 _ _ _ _ _ _
   | exact ih1 _ _ _
   | exact impl_PatternParts.mono _ _ _
   | exact laws_eqStringS.mono _ _ _
   | exact laws_heldStringS.mono _ _ _
   | exact laws_markStringS.mono _ _ _
   | exact spec_PatternParts.mono _ _ _
   | exact LeO.none _
   | refine LeO.ite ?_ ?_
   | refine LeO.bind ?_ (fun _ => ?_)
theorem laws_FnExactPatternParts.mono : ∀ a0 a1 k, LeO (laws_FnExactPatternParts.f k a0 a1) (laws_FnExactPatternParts.f (k + 1) a0 a1) := by
 intro a0 a1 k
 obtain ⟨ih0, ih1⟩ := laws_FnExactPatternParts.mono_l k
 unfold laws_FnExactPatternParts.f
 repeat' first
   | with_reducible first | exact ih0 _ _ _ _ _ _ | exact ih1 _ _ _ | exact impl_PatternParts.mono _ _ _ | exact laws_eqStringS.mono _ _ _ | exact laws_heldStringS.mono _ _ _ | exact laws_markStringS.mono _ _ _ | exact spec_PatternParts.mono _ _ _ | exact LeO.refl _ | exact LeO.none _ | refine LeO.ite ?_ ?_ | refine LeO.bind ?_ (fun _ => ?_)
   | exact ih0 _ _ _ _ _ _
   | exact ih1 _ _ _
   | exact impl_PatternParts.mono _ _ _
   | exact laws_eqStringS.mono _ _ _
   | exact laws_heldStringS.mono _ _ _
   | exact laws_markStringS.mono _ _ _
   | exact spec_PatternParts.mono _ _ _
   | exact LeO.none _
   | refine LeO.ite ?_ ?_
   | refine LeO.bind ?_ (fun _ => ?_)
set_option maxHeartbeats 8000000 in
set_option maxRecDepth 100000 in
theorem laws_FnExactPatternParts.calls (k : Nat) (a0 : ByteArray) (a1 : ByteArray) (r : Bool) (w : World) (h : laws_FnExactPatternParts.f k a0 a1 = some r) :
  Calls Try.prog 6 #[.string a0, .string a1] w fun e w' => e = .returned (.bool r) ∧ Below w.heap.size w w' := by
 have HB := am_ (Below.refl w.heap.size w)
 have H : (if (a0.size : Int) > 1048576 then (some true) else (if (a1.size : Int) > 1048576 then (some true) else ((spec_PatternParts.f k a0 a1).bind fun bt1001 => ((impl_PatternParts.f k a0 a1).bind fun bt1005 => ((laws_eqStringS.f k bt1005.1 bt1001.1).bind fun t1009 => (if t1009 = true then (laws_FnExactPatternParts.j0 k a0 a1 bt1001.1 bt1001.2 bt1005.1 (bt1005.2 != bt1001.2)) else (laws_FnExactPatternParts.j0 k a0 a1 bt1001.1 bt1001.2 bt1005.1 true))))))) = some r := h
 clear h
 by_cases c3 : (a0.size : Int) > 1048576
 ·rw [if_pos c3] at H
  have c3b0 : decide (1048576 < (a0.size : Int)) = true := decide_eq_true c3
  have c3b1 : decide (1048576 < a0.size) = true := decide_eq_true (by omega)
  clear c3
  obtain rfl := Option.some.inj H
  go_enter Try.func6, Try.ntmps6
  go_wp2
  go_ret
  exact ⟨rf_, bl_⟩
 ·rw [if_neg c3] at H
  have c3b0 : decide (1048576 < (a0.size : Int)) = false := decide_eq_false c3
  have c3b1 : decide (1048576 < a0.size) = false := decide_eq_false (by omega)
  clear c3
  by_cases c4 : (a1.size : Int) > 1048576
  ·rw [if_pos c4] at H
   have c4b0 : decide (1048576 < (a1.size : Int)) = true := decide_eq_true c4
   have c4b1 : decide (1048576 < a1.size) = true := decide_eq_true (by omega)
   clear c4
   obtain rfl := Option.some.inj H
   go_enter Try.func6, Try.ntmps6
   go_wp2
   go_ret
   exact ⟨rf_, bl_⟩
  ·rw [if_neg c4] at H
   have c4b0 : decide (1048576 < (a1.size : Int)) = false := decide_eq_false c4
   have c4b1 : decide (1048576 < a1.size) = false := decide_eq_false (by omega)
   clear c4
   replace H := Option.bind_eq_some_iff.mp H
   obtain ⟨⟨t1001, t1002⟩, A50, H⟩ := H
   replace H : ((impl_PatternParts.f k a0 a1).bind fun bt1005 => ((laws_eqStringS.f k bt1005.1 t1001).bind fun t1009 => (if t1009 = true then (laws_FnExactPatternParts.j0 k a0 a1 t1001 t1002 bt1005.1 (bt1005.2 != t1002)) else (laws_FnExactPatternParts.j0 k a0 a1 t1001 t1002 bt1005.1 true)))) = some r := H
   have A5 := am_ A50
   clear A50
   replace H := Option.bind_eq_some_iff.mp H
   obtain ⟨⟨t1005, t1006⟩, A60, H⟩ := H
   replace H : ((laws_eqStringS.f k t1005 t1001).bind fun t1009 => (if t1009 = true then (laws_FnExactPatternParts.j0 k a0 a1 t1001 t1002 t1005 (t1006 != t1002)) else (laws_FnExactPatternParts.j0 k a0 a1 t1001 t1002 t1005 true))) = some r := H
   have A6 := am_ A60
   clear A60
   have HC7 := am_ H
   clear H
   go_enter Try.func6, Try.ntmps6
   go_upto_region 7 with (first | ((with_reducible refine gate_callee (f := 27) rfl ?_); refine goesL_ (some 22) rfl rfl Try.func27 (by kernel_rfl) rfl #[.string a0, .string a1] rfl ag_ ?_; (with_reducible refine (spec_PatternParts.calls k a0 a1 t1001 t1002 _ A5.out).mono ?_); rintro e w8 ⟨v1003, rfl, ho0, hb⟩; refine ⟨_, rfl, ?_⟩; have n0_ := am_ (Kd.R_lower ho0 (below_size bl_)); have n1_ := am_ (below_step bl_ hb); clear HB; have HO1004 := n0_; have HB := n1_; clear n0_ n1_; (try clear hb); (try clear hb2); (try clear hk); (try clear hi); (try clear ho0)) | ((with_reducible refine gate_callee (f := 28) rfl ?_); refine goesL_ (some 28) rfl rfl Try.func28 (by kernel_rfl) rfl #[.string a0, .string a1] rfl ag_ ?_; (with_reducible refine (impl_PatternParts.calls k a0 a1 t1005 t1006 _ A6.out).mono ?_); rintro e w9 ⟨v1007, rfl, ho0, hb⟩; refine ⟨_, rfl, ?_⟩; have n0_ := am_ (Kd.R_elder' (ro_ HO1004) (Kd.R_base ho0) hb); have n1_ := am_ (Kd.R_lower (Kd.R_new' ho0 (Kd.R_lt (ro_ HO1004))) (below_size bl_)); have n2_ := am_ (below_step bl_ hb); clear HO1004; clear HB; have HO1004 := n0_; have HO1008 := n1_; have HB := n2_; clear n0_ n1_ n2_; (try clear hb); (try clear hb2); (try clear hk); (try clear hi); (try clear ho0)))
   (try simp only [Act.put, List.setIfInBounds_toArray, List.set_cons_zero, List.set_cons_succ])
   go_cut [39] (fun v39 wc => ∃ (kq : Nat) (x39_6 : Bool), v39 = .bool x39_6 ∧ Aside0 (laws_FnExactPatternParts.j0 kq a0 a1 t1001 t1002 t1005 x39_6 = some r) ∧ Aside0 (kq ≤ k) ∧ Aside0 (Kd.R Kd.string 9 wc w.heap.size (fun k_ => some k_ ≠ (v1007 : Value).ownBlock) v1003 t1001) ∧ Aside0 (Kd.R Kd.string 9 wc w.heap.size (fun k_ => some k_ ≠ (v1003 : Value).ownBlock) v1007 t1005) ∧ Aside0 (Below w.heap.size w wc))
   case first =>
    have H := HC7.out
    clear HC7
    replace H := Option.bind_eq_some_iff.mp H
    obtain ⟨t1009, A100, H⟩ := H
    replace H : (if t1009 = true then (laws_FnExactPatternParts.j0 k a0 a1 t1001 t1002 t1005 (t1006 != t1002)) else (laws_FnExactPatternParts.j0 k a0 a1 t1001 t1002 t1005 true)) = some r := H
    have A10 := am_ A100
    clear A100
    by_cases c11 : t1009 = true
    ·subst c11
     have H1 : (laws_FnExactPatternParts.j0 k a0 a1 t1001 t1002 t1005 (t1006 != t1002)) = some r := by rw [if_pos rfl] at H; exact H
     clear H
     have H := H1
     clear H1
     have H' := am_ H
     clear H
     obtain ⟨Ao12, co12, eo12⟩ := Kd.R_slice HO1008.out
     subst eo12
     obtain ⟨Ao13, co13, eo13⟩ := Kd.R_slice HO1004.out
     subst eo13
     go_wp2_with (first | ((with_reducible refine gate_callee (f := 19) rfl ?_); refine goesL_ (some 33) rfl rfl Try.func19 (by kernel_rfl) rfl #[.slice Ao12 t1005.length co12, .slice Ao13 t1001.length co13] rfl ag_ ?_; (with_reducible refine (laws_eqStringS.calls k _ _ t1005 _ _ t1001 true _ ?side1 ?side2 ?side3 ?side4 A10.out).mono ?_); (case side1 => exact cc_ (Kd.R_reads' HO1008.out).2.2); (case side2 => exact (Kd.R_reads' HO1008.out).2.1); (case side3 => exact cc_ (Kd.R_reads' HO1004.out).2.2); (case side4 => exact (Kd.R_reads' HO1004.out).2.1); rintro e w' ⟨rfl, ⟨nd, rfl⟩⟩; refine ⟨_, rfl, ?_⟩))
     go_meet
     case rel => exact ⟨_, ((t1006 != t1002)), rs_, H', ⟨by first | omega | exact Nat.le_refl _⟩, ⟨by (with_reducible repeat (first | apply Kd.R_alloc | apply Kd.R_drewN | apply Kd.R_drew)); exact Kd.R_mono HO1004.out (fun _ hk => hk.2)⟩, ⟨by (with_reducible repeat (first | apply Kd.R_alloc | apply Kd.R_drewN | apply Kd.R_drew)); exact Kd.R_mono HO1008.out (fun _ hk => hk.2)⟩, ⟨bl_⟩⟩
    ·replace c11 := Bool.eq_false_iff.mpr c11
     subst c11
     have H1 : (laws_FnExactPatternParts.j0 k a0 a1 t1001 t1002 t1005 true) = some r := by rw [if_neg (show ¬ (false = true) by decide)] at H; exact H
     clear H
     have H := H1
     clear H1
     have H' := am_ H
     clear H
     obtain ⟨Ao14, co14, eo14⟩ := Kd.R_slice HO1008.out
     subst eo14
     obtain ⟨Ao15, co15, eo15⟩ := Kd.R_slice HO1004.out
     subst eo15
     go_wp2_with (first | ((with_reducible refine gate_callee (f := 19) rfl ?_); refine goesL_ (some 33) rfl rfl Try.func19 (by kernel_rfl) rfl #[.slice Ao14 t1005.length co14, .slice Ao15 t1001.length co15] rfl ag_ ?_; (with_reducible refine (laws_eqStringS.calls k _ _ t1005 _ _ t1001 false _ ?side1 ?side2 ?side3 ?side4 A10.out).mono ?_); (case side1 => exact cc_ (Kd.R_reads' HO1008.out).2.2); (case side2 => exact (Kd.R_reads' HO1008.out).2.1); (case side3 => exact cc_ (Kd.R_reads' HO1004.out).2.2); (case side4 => exact (Kd.R_reads' HO1004.out).2.1); rintro e w' ⟨rfl, ⟨nd, rfl⟩⟩; refine ⟨_, rfl, ?_⟩))
     go_meet
     case rel => exact ⟨_, (true), rs_, H', ⟨by first | omega | exact Nat.le_refl _⟩, ⟨by (with_reducible repeat (first | apply Kd.R_alloc | apply Kd.R_drewN | apply Kd.R_drew)); exact Kd.R_mono HO1004.out (fun _ hk => hk.2)⟩, ⟨by (with_reducible repeat (first | apply Kd.R_alloc | apply Kd.R_drewN | apply Kd.R_drew)); exact Kd.R_mono HO1008.out (fun _ hk => hk.2)⟩, ⟨bl_⟩⟩
   case rest =>
    clear HC7
    try clear c1
    try clear c2
    try clear p2
    try clear c3
    try clear c3b0
    try clear c3b1
    try clear c4
    try clear c4b0
    try clear c4b1
    try clear c6
    try clear c11
    obtain ⟨kq, x39_6, rfl, HA, HJ6, HO_5, HO_7, HB⟩ := hcut
    cases kq with
    | zero => exact absurd HA.out (by simp [laws_FnExactPatternParts.j0])
    | succ kj6 =>
     have H := HA.out
     clear HA
     simp only [laws_FnExactPatternParts.j0] at H
     by_cases c16 : x39_6 = true
     ·subst c16
      have H1 : (none) = some r := by rw [if_pos rfl] at H; exact H
      clear H
      have H := H1
      clear H1
      exact absurd H (by simp)
     ·replace c16 := Bool.eq_false_iff.mpr c16
      subst c16
      have H1 : ((laws_markStringS.f kj6 t1005 1).bind fun bt1010 => ((laws_heldStringS.f kj6 bt1010.2 1).bind fun t1012 => (if t1012 < 0 then (none) else (if t1012 = bt1010.1 then ((impl_PatternParts.f kj6 a0 a1).bind fun bt1013 => ((laws_eqStringS.f kj6 bt1013.1 t1001).bind fun t1017 => (if t1017 = true then (laws_FnExactPatternParts.j1 kj6 bt1010.2 bt1010.1 (bt1013.2 != t1002)) else (laws_FnExactPatternParts.j1 kj6 bt1010.2 bt1010.1 true)))) else (none))))) = some r := by rw [if_neg (show ¬ (false = true) by decide)] at H; exact H
      clear H
      have H := H1
      clear H1
      replace H := Option.bind_eq_some_iff.mp H
      obtain ⟨⟨t1010, t1011⟩, A170, H⟩ := H
      replace H : ((laws_heldStringS.f kj6 t1011 1).bind fun t1012 => (if t1012 < 0 then (none) else (if t1012 = t1010 then ((impl_PatternParts.f kj6 a0 a1).bind fun bt1013 => ((laws_eqStringS.f kj6 bt1013.1 t1001).bind fun t1017 => (if t1017 = true then (laws_FnExactPatternParts.j1 kj6 t1011 t1010 (bt1013.2 != t1002)) else (laws_FnExactPatternParts.j1 kj6 t1011 t1010 true)))) else (none)))) = some r := H
      have A17 := am_ A170
      clear A170
      replace H := Option.bind_eq_some_iff.mp H
      obtain ⟨t1012, A180, H⟩ := H
      replace H : (if t1012 < 0 then (none) else (if t1012 = t1010 then ((impl_PatternParts.f kj6 a0 a1).bind fun bt1013 => ((laws_eqStringS.f kj6 bt1013.1 t1001).bind fun t1017 => (if t1017 = true then (laws_FnExactPatternParts.j1 kj6 t1011 t1010 (bt1013.2 != t1002)) else (laws_FnExactPatternParts.j1 kj6 t1011 t1010 true)))) else (none))) = some r := H
      have A18 := am_ A180
      clear A180
      by_cases c19 : t1012 < 0
      ·rw [if_pos c19] at H
       exact absurd H (by simp)
      ·rw [if_neg c19] at H
       have c19b0 : decide (t1012 < 0) = false := decide_eq_false c19
       clear c19
       by_cases c20 : t1012 = t1010
       ·rw [if_pos c20] at H
        have c20b0 : (t1012 == t1010) = true := beq_iff_eq.mpr c20
        have c20b1 : (t1012 != t1010) = false := bne_eq_false_iff_eq.mpr c20
        clear c20
        replace H := Option.bind_eq_some_iff.mp H
        obtain ⟨⟨t1013, t1014⟩, A210, H⟩ := H
        replace H : ((laws_eqStringS.f kj6 t1013 t1001).bind fun t1017 => (if t1017 = true then (laws_FnExactPatternParts.j1 kj6 t1011 t1010 (t1014 != t1002)) else (laws_FnExactPatternParts.j1 kj6 t1011 t1010 true))) = some r := H
        have A21 := am_ A210
        clear A210
        have HC22 := am_ H
        clear H
        obtain ⟨Ao23, co23, eo23⟩ := Kd.R_slice HO_7.out
        subst eo23
        go_upto_region 18 with (first | ((with_reducible refine gate_callee (f := 29) rfl ?_); refine goesL_ (some 42) rfl rfl Try.func29 (by kernel_rfl) rfl #[.slice Ao23 t1005.length co23, .int .i64 1] rfl ag_ ?_; (with_reducible refine (laws_markStringS.calls kj6 (fun k_ => some k_ = (.slice Ao23 t1005.length co23 : Value).ownBlock) (.slice Ao23 t1005.length co23) t1005 1 t1010 t1011 w _ ?side1 ?side2 A17.out).mono ?_); (case side1 => repeat (first | (with_reducible first | exact HB.out | apply below_alloc | apply pw_below_drewN | apply below_drew1) | exact HB.out)); (case side2 => exact Kd.R_tight rfl HO_7.out); rintro e w24 ⟨rfl, hy0, hb, hkp⟩; refine ⟨_, rfl, ?_⟩; have n0_ := am_ (Kd.R_mono (ok' := fun k_ => some k_ ≠ (.slice Ao23 t1005.length co23 : Value).ownBlock) (Kd.R_keptB (HO_5.out) hkp (fun k_ hk_ hs_ => (hk_) hs_)) (fun k_ hk_ => hk_.1)); have n1_ := am_ (Kd.R_reok rfl hy0 (fun k_ e_ => HO_7.out.1 k_ e_)); have n2_ := am_ (hb); clear HO_5; clear HO_7; clear HB; have HO_5 := n0_; have HO_7 := n1_; have HB := n2_; clear n0_ n1_ n2_; (try clear hb); (try clear hkp); (try clear hy0)) | ((with_reducible refine gate_callee (f := 30) rfl ?_); refine goesL_ (some 45) rfl rfl Try.func30 (by kernel_rfl) rfl #[.slice Ao23 t1011.length co23, .int .i64 1] rfl (by (try simp only [List.map_toArray, List.map_cons, List.map_nil]); first | done | (rw [show t1011.length = t1005.length from (Kd.R_reads' HO_7.out).1.symm] <;> rfl) | rfl | (simp only [List.length_drop, List.length_take]; rfl)) ?_; (with_reducible refine (laws_heldStringS.calls kj6 _ _ t1011 1 t1012 _ ?side1 ?side2 A18.out).mono ?_); (case side1 => exact cc_ (Kd.R_reads' HO_7.out).2.2); (case side2 => rw [show t1011.length = t1005.length from (Kd.R_reads' HO_7.out).1.symm]; exact (Kd.R_reads' HO_7.out).2.1); rintro e w25 ⟨rfl, hb⟩; refine ⟨_, rfl, ?_⟩; have n0_ := am_ (Kd.R_below (ro_ HO_5) hb); have n1_ := am_ (Kd.R_below (ro_ HO_7) hb); have n2_ := am_ (below_step bl_ hb); clear HO_5; clear HO_7; clear HB; have HO_5 := n0_; have HO_7 := n1_; have HB := n2_; clear n0_ n1_ n2_; (try clear hb); (try clear hb2); (try clear hk); (try clear hi)) | ((with_reducible refine gate_callee (f := 28) rfl ?_); refine goesL_ (some 54) rfl rfl Try.func28 (by kernel_rfl) rfl #[.string a0, .string a1] rfl ag_ ?_; (with_reducible refine (impl_PatternParts.calls kj6 a0 a1 t1013 t1014 _ A21.out).mono ?_); rintro e w26 ⟨v1015, rfl, ho0, hb⟩; refine ⟨_, rfl, ?_⟩; have n0_ := am_ (Kd.R_elder' (ro_ HO_5) (Kd.R_base ho0) hb); have n1_ := am_ (Kd.R_elder' (ro_ HO_7) (Kd.R_base ho0) hb); have n2_ := am_ (Kd.R_lower (Kd.R_new' (Kd.R_new' ho0 (Kd.R_lt (ro_ HO_5))) (Kd.R_lt (ro_ HO_7))) (below_size bl_)); have n3_ := am_ (below_step bl_ hb); clear HO_5; clear HO_7; clear HB; have HO_5 := n0_; have HO_7 := n1_; have HO1016 := n2_; have HB := n3_; clear n0_ n1_ n2_ n3_; (try clear hb); (try clear hb2); (try clear hk); (try clear hi); (try clear ho0)))
        (try simp only [Act.put, List.setIfInBounds_toArray, List.set_cons_zero, List.set_cons_succ])
        go_cut [65] (fun v65 wc => ∃ (kq : Nat) (x65_21 : Bool), v65 = .bool x65_21 ∧ Aside0 (laws_FnExactPatternParts.j1 kq t1011 t1010 x65_21 = some r) ∧ Aside0 (kq ≤ kj6) ∧ Aside0 (Kd.R Kd.string 9 wc w.heap.size (fun _ => True) (.slice Ao23 t1005.length co23) t1011) ∧ Aside0 (Below w.heap.size w wc))
        case first =>
         have H := HC22.out
         clear HC22
         replace H := Option.bind_eq_some_iff.mp H
         obtain ⟨t1017, A270, H⟩ := H
         replace H : (if t1017 = true then (laws_FnExactPatternParts.j1 kj6 t1011 t1010 (t1014 != t1002)) else (laws_FnExactPatternParts.j1 kj6 t1011 t1010 true)) = some r := H
         have A27 := am_ A270
         clear A270
         by_cases c28 : t1017 = true
         ·subst c28
          have H1 : (laws_FnExactPatternParts.j1 kj6 t1011 t1010 (t1014 != t1002)) = some r := by rw [if_pos rfl] at H; exact H
          clear H
          have H := H1
          clear H1
          have H' := am_ H
          clear H
          obtain ⟨Ao29, co29, eo29⟩ := Kd.R_slice HO1016.out
          subst eo29
          obtain ⟨Ao30, co30, eo30⟩ := Kd.R_slice HO_5.out
          subst eo30
          go_wp2_with (first | ((with_reducible refine gate_callee (f := 19) rfl ?_); refine goesL_ (some 59) rfl rfl Try.func19 (by kernel_rfl) rfl #[.slice Ao29 t1013.length co29, .slice Ao30 t1001.length co30] rfl ag_ ?_; (with_reducible refine (laws_eqStringS.calls kj6 _ _ t1013 _ _ t1001 true _ ?side1 ?side2 ?side3 ?side4 A27.out).mono ?_); (case side1 => exact cc_ (Kd.R_reads' HO1016.out).2.2); (case side2 => exact (Kd.R_reads' HO1016.out).2.1); (case side3 => exact cc_ (Kd.R_reads' HO_5.out).2.2); (case side4 => exact (Kd.R_reads' HO_5.out).2.1); rintro e w' ⟨rfl, ⟨nd, rfl⟩⟩; refine ⟨_, rfl, ?_⟩))
          go_meet
          case rel => exact ⟨_, ((t1014 != t1002)), rs_, H', ⟨by have := HJ6.out; first | omega | exact Nat.le_refl _⟩, ⟨by (with_reducible repeat (first | apply Kd.R_alloc | apply Kd.R_drewN | apply Kd.R_drew)); exact Kd.R_mono HO_7.out (fun _ hk => trivial)⟩, ⟨bl_⟩⟩
         ·replace c28 := Bool.eq_false_iff.mpr c28
          subst c28
          have H1 : (laws_FnExactPatternParts.j1 kj6 t1011 t1010 true) = some r := by rw [if_neg (show ¬ (false = true) by decide)] at H; exact H
          clear H
          have H := H1
          clear H1
          have H' := am_ H
          clear H
          obtain ⟨Ao31, co31, eo31⟩ := Kd.R_slice HO1016.out
          subst eo31
          obtain ⟨Ao32, co32, eo32⟩ := Kd.R_slice HO_5.out
          subst eo32
          go_wp2_with (first | ((with_reducible refine gate_callee (f := 19) rfl ?_); refine goesL_ (some 59) rfl rfl Try.func19 (by kernel_rfl) rfl #[.slice Ao31 t1013.length co31, .slice Ao32 t1001.length co32] rfl ag_ ?_; (with_reducible refine (laws_eqStringS.calls kj6 _ _ t1013 _ _ t1001 false _ ?side1 ?side2 ?side3 ?side4 A27.out).mono ?_); (case side1 => exact cc_ (Kd.R_reads' HO1016.out).2.2); (case side2 => exact (Kd.R_reads' HO1016.out).2.1); (case side3 => exact cc_ (Kd.R_reads' HO_5.out).2.2); (case side4 => exact (Kd.R_reads' HO_5.out).2.1); rintro e w' ⟨rfl, ⟨nd, rfl⟩⟩; refine ⟨_, rfl, ?_⟩))
          go_meet
          case rel => exact ⟨_, (true), rs_, H', ⟨by have := HJ6.out; first | omega | exact Nat.le_refl _⟩, ⟨by (with_reducible repeat (first | apply Kd.R_alloc | apply Kd.R_drewN | apply Kd.R_drew)); exact Kd.R_mono HO_7.out (fun _ hk => trivial)⟩, ⟨bl_⟩⟩
        case rest =>
         clear HC22
         try clear c1
         try clear c2
         try clear p2
         try clear c3
         try clear c3b0
         try clear c3b1
         try clear c4
         try clear c4b0
         try clear c4b1
         try clear c6
         try clear c11
         try clear c16
         try clear c19
         try clear c19b0
         try clear c20
         try clear c20b0
         try clear c20b1
         try clear c27
         try clear c28
         try clear c29
         try clear c30
         try clear p2
         obtain ⟨kq, x65_21, rfl, HA, HJ21, HO_7, HB⟩ := hcut
         have hl7_21 := (Kd.R_reads' HO_7.out).1
         rw [hl7_21] at HO_7
         (try simp only [hl7_21])
         cases kq with
         | zero => exact absurd HA.out (by simp [laws_FnExactPatternParts.j1])
         | succ kj21 =>
          have H := HA.out
          clear HA
          simp only [laws_FnExactPatternParts.j1] at H
          by_cases c33 : x65_21 = true
          ·subst c33
           have H1 : (none) = some r := by rw [if_pos rfl] at H; exact H
           clear H
           have H := H1
           clear H1
           exact absurd H (by simp)
          ·replace c33 := Bool.eq_false_iff.mpr c33
           subst c33
           have H1 : ((laws_heldStringS.f kj21 t1011 1).bind fun t1018 => (if t1018 < 0 then (none) else (if t1018 = t1010 then (some true) else (none)))) = some r := by rw [if_neg (show ¬ (false = true) by decide)] at H; exact H
           clear H
           have H := H1
           clear H1
           replace H := Option.bind_eq_some_iff.mp H
           obtain ⟨t1018, A340, H⟩ := H
           replace H : (if t1018 < 0 then (none) else (if t1018 = t1010 then (some true) else (none))) = some r := H
           have A34 := am_ A340
           clear A340
           by_cases c35 : t1018 < 0
           ·rw [if_pos c35] at H
            exact absurd H (by simp)
           ·rw [if_neg c35] at H
            have c35b0 : decide (t1018 < 0) = false := decide_eq_false c35
            clear c35
            by_cases c36 : t1018 = t1010
            ·rw [if_pos c36] at H
             have c36b0 : (t1018 == t1010) = true := beq_iff_eq.mpr c36
             have c36b1 : (t1018 != t1010) = false := bne_eq_false_iff_eq.mpr c36
             clear c36
             obtain rfl := Option.some.inj H
             go_wp2_with (first | ((with_reducible refine gate_callee (f := 30) rfl ?_); refine goesL_ (some 68) rfl rfl Try.func30 (by kernel_rfl) rfl #[.slice Ao23 t1011.length co23, .int .i64 1] rfl ag_ ?_; (with_reducible refine (laws_heldStringS.calls kj21 _ _ t1011 1 t1018 _ ?side1 ?side2 A34.out).mono ?_); (case side1 => exact cc_ (Kd.R_reads' HO_7.out).2.2); (case side2 => exact (Kd.R_reads' HO_7.out).2.1); rintro e w37 ⟨rfl, hb⟩; refine ⟨_, rfl, ?_⟩; have n0_ := am_ (Kd.R_below (ro_ HO_7) hb); have n1_ := am_ (below_step bl_ hb); clear HO_7; clear HB; have HO_7 := n0_; have HB := n1_; clear n0_ n1_; (try clear hb); (try clear hb2); (try clear hk); (try clear hi)))
             go_ret
             exact ⟨rf_, bl_⟩
            ·rw [if_neg c36] at H
             exact absurd H (by simp)
       ·rw [if_neg c20] at H
        exact absurd H (by simp)

/-- THE ONE PURE STATEMENT of laws_FnExactPatternParts: yours. -/
def laws_FnExactPatternParts.Pure : Prop := ∀ (a0 : ByteArray) (a1 : ByteArray), a0.size ≤ 140737488351232 → a1.size ≤ 140737488351232 → ∃ k, laws_FnExactPatternParts.f k a0 a1 = some true
theorem laws_FnExactPatternParts.walk (P : laws_FnExactPatternParts.Pure) (a0 : ByteArray) (a1 : ByteArray) (w : World) (w0 : a0.size ≤ 140737488351232) (w1 : a1.size ≤ 140737488351232) :
  Calls Try.prog 6 #[.string a0, .string a1] w fun e w' => e = .returned (.bool true) ∧ Below w.heap.size w w' := by
 obtain ⟨k, h⟩ := P a0 a1 w0 w1
 refine (laws_FnExactPatternParts.calls k a0 a1 true w h).mono ?_
 rintro e w' ⟨rfl, hd⟩
 exact ⟨rfl, hd⟩

end Go.Proofs.Ytnnlgbpfdnaalaa.Pr
