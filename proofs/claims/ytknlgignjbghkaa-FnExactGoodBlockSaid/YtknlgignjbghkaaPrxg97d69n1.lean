/- Functions of the given program as plain Lean functions, and that the machine's calls come to them; written by a program of this session; no condition but those that each theorem states. -/
import Derived.Test.YtknlgignjbghkaaPrx0
import Derived.Test.YtknlgignjbghkaaPrxg61164n1
import Derived.Test.YtknlgignjbghkaaPrxg61164n2
namespace Go.Proofs.Ytknlgignjbghkaa.Pr
open Go.RowKit Go.Proofs.YtknlgignjbghkaaW.PrintWords Go.Proofs.YtknlgignjbghkaaW.PrintLast Go.Proofs.YtknlgignjbghkaaW.PrintMore
attribute [local go_sem] max2_int min2_int max_two min_two max_three min_three max_four min_four   -- for this text's walks alone
set_option linter.unusedVariables false
set_option linter.unusedSimpArgs false

/-! ### spec_l7Place: function 95 -/
def spec_l7Place.l0 : Nat → List (S83) → List (S108) → List (S83) → Int → Int → Option (Int × Bool)
 | 0, _, _, _, _, _ => none
 | k + 1, x0, x1, x9, x10, x11 => if x11 < x10 then (if 0 ≤ x11 then (if x11 < (x9.length : Int) then ((spec_l2Cmp.f k ((rd_T83 x9 x11).f0) x1).bind fun t1003 => (if t1003 = 0 then (some (x11, true)) else (if t1003 > 0 then (some (x11, false)) else (spec_l7Place.l0 k x0 x1 x9 x10 (wrap64 (x11 + 1)))))) else (none)) else (none)) else (some ((x0.length : Int), false))
def spec_l7Place.f (k : Nat) (l0 : List (S83)) (l1 : List (S108)) : Option (Int × Bool) := spec_l7Place.l0 k l0 l1 l0 (l0.length : Int) 0
theorem spec_l7Place.mono_l : ∀ k, (∀ y0 y1 y2 y3 y4, LeO (spec_l7Place.l0 k y0 y1 y2 y3 y4) (spec_l7Place.l0 (k + 1) y0 y1 y2 y3 y4))
 | 0 => fun _ _ _ _ _ r h => by simp [spec_l7Place.l0] at h
 | k + 1 => by
  have ih0 := spec_l7Place.mono_l k
  ·intro y0 y1 y2 y3 y4
   unfold spec_l7Place.l0
   repeat' first
   | with_reducible first | exact ih0 _ _ _ _ _ | exact spec_l2Cmp.mono _ _ _ | exact LeO.refl _ | exact LeO.none _ | refine LeO.ite ?_ ?_ | refine LeO.bind ?_ (fun _ => ?_)
   | exact ih0 _ _ _ _ _
   | exact spec_l2Cmp.mono _ _ _
   | exact LeO.none _
   | refine LeO.ite ?_ ?_
   | refine LeO.bind ?_ (fun _ => ?_)
theorem spec_l7Place.mono : ∀ a0 a1 k, LeO (spec_l7Place.f k a0 a1) (spec_l7Place.f (k + 1) a0 a1) := by
 intro a0 a1 k
 have ih0 := spec_l7Place.mono_l k
 unfold spec_l7Place.f
 repeat' first
   | with_reducible first | exact ih0 _ _ _ _ _ | exact spec_l2Cmp.mono _ _ _ | exact LeO.refl _ | exact LeO.none _ | refine LeO.ite ?_ ?_ | refine LeO.bind ?_ (fun _ => ?_)
   | exact ih0 _ _ _ _ _
   | exact spec_l2Cmp.mono _ _ _
   | exact LeO.none _
   | refine LeO.ite ?_ ?_
   | refine LeO.bind ?_ (fun _ => ?_)
set_option maxHeartbeats 8000000 in
set_option maxRecDepth 100000 in
theorem spec_l7Place.calls (k : Nat) (A0 : Option Addr) (c0 : Nat) (l0 : List (S83)) (A1 : Option Addr) (c1 : Nat) (l1 : List (S108)) (r1 : Int) (r2 : Bool) (w : World) (hr0 : Kd.C k83 w A0 l0.length l0) (hc0 : l0.length ≤ c0) (hr1 : Kd.C k108 w A1 l1.length l1) (hc1 : l1.length ≤ c1) (h : spec_l7Place.f k l0 l1 = some (r1, r2)) :
  Calls Try.prog 95 #[.slice A0 l0.length c0, .slice A1 l1.length c1] w fun e w' => e = .returned (.tuple #[.int .i64 r1, .bool r2]) ∧ Below w.heap.size w w' := by
 have hu83 := Try.underlying83
 have HR0 := am_ hr0
 have HC0 := am_ hc0
 clear hr0 hc0
 have HR1 := am_ hr1
 have HC1 := am_ hc1
 clear hr1 hc1
 have HB := am_ (Below.refl w.heap.size w)
 have H : (spec_l7Place.l0 k l0 l1 l0 (l0.length : Int) 0) = some (r1, r2) := h
 clear h
 have H' := am_ H
 clear H
 go_enter Try.func95, Try.ntmps95
 go_wp2
 go_loopg [11] k (fun kq v11 w' => ∃ (x11_1 : Int), v11 = .int .i64 x11_1 ∧ Aside0 (spec_l7Place.l0 kq l0 l1 l0 (l0.length : Int) x11_1 = some (r1, r2)) ∧ Aside0 (kq ≤ k) ∧ Aside0 (Below w.heap.size w w'))
 case atStart => exact ⟨(0), rs_, H', ⟨Nat.le_refl _⟩, ⟨bl_⟩⟩
 case round =>
  clear H'
  try clear c1
  try clear p2
  obtain ⟨x11_1, rfl, HA, HK1, HB⟩ := hrel
  cases gk with
  | zero => exact absurd HA.out (by simp [spec_l7Place.l0])
  | succ k1 =>
   have H := HA.out
   clear HA
   simp only [spec_l7Place.l0] at H
   by_cases c3 : x11_1 < (l0.length : Int)
   ·rw [if_pos c3] at H
    have c3b0 : decide (x11_1 < (l0.length : Int)) = true := decide_eq_true c3
    clear c3
    by_cases c4 : 0 ≤ x11_1
    ·rw [if_pos c4] at H
     have c4b0 : decide (0 ≤ x11_1) = true := decide_eq_true c4
     clear c4
     by_cases c5 : x11_1 < (l0.length : Int)
     ·rw [if_pos c5] at H
      have c5b0 : decide (x11_1 < (l0.length : Int)) = true := decide_eq_true c5
      clear c5
      replace H := Option.bind_eq_some_iff.mp H
      obtain ⟨t1003, A60, H⟩ := H
      replace H : (if t1003 = 0 then (some (x11_1, true)) else (if t1003 > 0 then (some (x11_1, false)) else (spec_l7Place.l0 k1 l0 l1 l0 (l0.length : Int) (wrap64 (x11_1 + 1))))) = some (r1, r2) := H
      have A6 := am_ A60
      clear A60
      by_cases c7 : t1003 = 0
      ·rw [if_pos c7] at H
       have c7b0 : (t1003 == 0) = true := beq_iff_eq.mpr c7
       have c7b1 : (t1003 != 0) = false := bne_eq_false_iff_eq.mpr c7
       clear c7
       simp only [Option.some.injEq, Prod.mk.injEq] at H
       obtain ⟨rfl, rfl⟩ := H
       have p1001 : 0 ≤ (x11_1 : Int) := od_
       have q1001 : x11_1 < (l0.length : Int) := od_
       obtain ⟨ad1001, A1001_0, c1001_0, A1001_1, c1001_1, e1001, hx1001_0, hx1001_1, hl1001_0, hi1001_0, hl1001_1, hi1001_1⟩ := at_T83 HR0.out x11_1 p1001 q1001
       cases e1001
       replace hx1001_0 := kp_ HB hx1001_0
       replace hx1001_1 := kp_ HB hx1001_1
       have HR1001_0 := am_ hi1001_0
       have HC1001_0 := am_ hl1001_0
       clear hi1001_0 hl1001_0
       have HR1001_1 := am_ hi1001_1
       have HC1001_1 := am_ hl1001_1
       clear hi1001_1 hl1001_1
       replace p1001 := eq_true p1001
       replace q1001 := eq_true q1001
       go_wp2_with (first | ((with_reducible refine gate_dst (N := 7) rfl ?_); refine bx_ 7 #[.slice none 0 0, .slice none 0 0] 83 ?_; intro gb1002 hg w8 hbox hb; have BK1002 := am_ (hbox); have GW1002 := am_ (gs_ hg : w.heap.size ≤ gb1002); replace HB := am_ (below_step bl_ hb); have GE1002 := GW1002; clear hb hbox hg; have hcz9_0 := bc2_0 BK1002; have hcz9_1 := bc2_1 BK1002; have hfz9_0 := bf_ BK1002 0; have hfz9_1 := bf_ BK1002 1) | ((with_reducible refine gate_callee (f := 50) rfl ?_); refine goesL_ (some 19) rfl rfl Try.func50 (by kernel_rfl) rfl #[.slice A1001_0 ((rd_T83 l0 x11_1).f0).length c1001_0, .slice A1 l1.length c1] rfl ag_ ?_; (with_reducible refine (spec_l2Cmp.calls k1 _ _ ((rd_T83 l0 x11_1).f0) _ _ l1 t1003 _ ?side1 ?side2 ?side3 ?side4 A6.out).mono ?_); (case side1 => exact Kd.C_below HR1001_0.out bg_); (case side2 => exact HC1001_0.out); (case side3 => exact Kd.C_below HR1.out bg_); (case side4 => exact HC1.out); rintro e w' ⟨rfl, ⟨nd, rfl⟩⟩; refine ⟨_, rfl, ?_⟩))
       go_ret2
       exact ⟨rf_, bg_⟩
      ·rw [if_neg c7] at H
       have c7b0 : (t1003 == 0) = false := beq_eq_false_iff_ne.mpr c7
       have c7b1 : (t1003 != 0) = true := bne_iff_ne.mpr c7
       by_cases c10 : t1003 > 0
       ·rw [if_pos c10] at H
        have c10b0 : decide (0 < t1003) = true := decide_eq_true c10
        clear c10
        simp only [Option.some.injEq, Prod.mk.injEq] at H
        obtain ⟨rfl, rfl⟩ := H
        have p1001 : 0 ≤ (x11_1 : Int) := od_
        have q1001 : x11_1 < (l0.length : Int) := od_
        obtain ⟨ad1001, A1001_0, c1001_0, A1001_1, c1001_1, e1001, hx1001_0, hx1001_1, hl1001_0, hi1001_0, hl1001_1, hi1001_1⟩ := at_T83 HR0.out x11_1 p1001 q1001
        cases e1001
        replace hx1001_0 := kp_ HB hx1001_0
        replace hx1001_1 := kp_ HB hx1001_1
        have HR1001_0 := am_ hi1001_0
        have HC1001_0 := am_ hl1001_0
        clear hi1001_0 hl1001_0
        have HR1001_1 := am_ hi1001_1
        have HC1001_1 := am_ hl1001_1
        clear hi1001_1 hl1001_1
        replace p1001 := eq_true p1001
        replace q1001 := eq_true q1001
        go_wp2_with (first | ((with_reducible refine gate_dst (N := 7) rfl ?_); refine bx_ 7 #[.slice none 0 0, .slice none 0 0] 83 ?_; intro gb1002 hg w11 hbox hb; have BK1002 := am_ (hbox); have GW1002 := am_ (gs_ hg : w.heap.size ≤ gb1002); replace HB := am_ (below_step bl_ hb); have GE1002 := GW1002; clear hb hbox hg; have hcz12_0 := bc2_0 BK1002; have hcz12_1 := bc2_1 BK1002; have hfz12_0 := bf_ BK1002 0; have hfz12_1 := bf_ BK1002 1) | ((with_reducible refine gate_callee (f := 50) rfl ?_); refine goesL_ (some 19) rfl rfl Try.func50 (by kernel_rfl) rfl #[.slice A1001_0 ((rd_T83 l0 x11_1).f0).length c1001_0, .slice A1 l1.length c1] rfl ag_ ?_; (with_reducible refine (spec_l2Cmp.calls k1 _ _ ((rd_T83 l0 x11_1).f0) _ _ l1 t1003 _ ?side1 ?side2 ?side3 ?side4 A6.out).mono ?_); (case side1 => exact Kd.C_below HR1001_0.out bg_); (case side2 => exact HC1001_0.out); (case side3 => exact Kd.C_below HR1.out bg_); (case side4 => exact HC1.out); rintro e w' ⟨rfl, ⟨nd, rfl⟩⟩; refine ⟨_, rfl, ?_⟩))
        go_ret2
        exact ⟨rf_, bg_⟩
       ·rw [if_neg c10] at H
        have c10b0 : decide (0 < t1003) = false := decide_eq_false c10
        clear c10
        have H' := am_ H
        clear H
        have p1001 : 0 ≤ (x11_1 : Int) := od_
        have q1001 : x11_1 < (l0.length : Int) := od_
        obtain ⟨ad1001, A1001_0, c1001_0, A1001_1, c1001_1, e1001, hx1001_0, hx1001_1, hl1001_0, hi1001_0, hl1001_1, hi1001_1⟩ := at_T83 HR0.out x11_1 p1001 q1001
        cases e1001
        replace hx1001_0 := kp_ HB hx1001_0
        replace hx1001_1 := kp_ HB hx1001_1
        have HR1001_0 := am_ hi1001_0
        have HC1001_0 := am_ hl1001_0
        clear hi1001_0 hl1001_0
        have HR1001_1 := am_ hi1001_1
        have HC1001_1 := am_ hl1001_1
        clear hi1001_1 hl1001_1
        replace p1001 := eq_true p1001
        replace q1001 := eq_true q1001
        go_wp2_with (first | ((with_reducible refine gate_dst (N := 7) rfl ?_); refine bx_ 7 #[.slice none 0 0, .slice none 0 0] 83 ?_; intro gb1002 hg w13 hbox hb; have BK1002 := am_ (hbox); have GW1002 := am_ (gs_ hg : w.heap.size ≤ gb1002); replace HB := am_ (below_step bl_ hb); have GE1002 := GW1002; clear hb hbox hg; have hcz14_0 := bc2_0 BK1002; have hcz14_1 := bc2_1 BK1002; have hfz14_0 := bf_ BK1002 0; have hfz14_1 := bf_ BK1002 1) | ((with_reducible refine gate_callee (f := 50) rfl ?_); refine goesL_ (some 19) rfl rfl Try.func50 (by kernel_rfl) rfl #[.slice A1001_0 ((rd_T83 l0 x11_1).f0).length c1001_0, .slice A1 l1.length c1] rfl ag_ ?_; (with_reducible refine (spec_l2Cmp.calls k1 _ _ ((rd_T83 l0 x11_1).f0) _ _ l1 t1003 _ ?side1 ?side2 ?side3 ?side4 A6.out).mono ?_); (case side1 => exact Kd.C_below HR1001_0.out bg_); (case side2 => exact HC1001_0.out); (case side3 => exact Kd.C_below HR1.out bg_); (case side4 => exact HC1.out); rintro e w' ⟨rfl, ⟨nd, rfl⟩⟩; refine ⟨_, rfl, ?_⟩))
        go_roundg k1
        case measure => have := HK1.out; omega
        case rel => exact ⟨(wrap64 (x11_1 + 1)), rs_, H', ⟨by have := HK1.out; omega⟩, ⟨bg_⟩⟩
     ·rw [if_neg c5] at H
      exact absurd H (by simp)
    ·rw [if_neg c4] at H
     exact absurd H (by simp)
   ·rw [if_neg c3] at H
    have c3b0 : decide (x11_1 < (l0.length : Int)) = false := decide_eq_false c3
    clear c3
    simp only [Option.some.injEq, Prod.mk.injEq] at H
    obtain ⟨rfl, rfl⟩ := H
    go_wp2
    go_ret2
    exact ⟨rf_, bl_⟩

/-! ### impl_findSeries: function 55 -/
set_option maxHeartbeats 4000000 in
theorem impl_findSeries_1.calls (k : Nat) (A2 : Option Addr) (c2 : Nat) (la : List (S108)) (v3 : Value) (A1 : Option Addr) (c1 : Nat) (l1 : List (S108)) (r : Int) (w : World) (hr2 : Kd.C k108 w A2 la.length la) (hc2 : la.length ≤ c2) (hr1 : Kd.C k108 w A1 l1.length l1) (hc1 : l1.length ≤ c1) (h : impl_compare.f k la l1 = some r) :
  Calls Try.prog 102 #[.agg #[.slice A2 la.length c2, v3], .slice A1 l1.length c1] w fun e w' => e = .returned (.int .i64 r) ∧ Below w.heap.size w w' := by
 have hu := Try.underlying83
 have HR1 := am_ hr1
 have HR2 := am_ hr2
 clear hr1 hr2
 have HB := am_ (Below.refl w.heap.size w)
 go_enter Try.func102, Try.ntmps102
 go_wp2_with (first | ((with_reducible refine gate_dst (N := 2) rfl ?_); refine bx_ 2 #[.slice A2 la.length c2, v3] 83 ?_; intro gb hg w8 hbox hb; have n1_ := am_ (below_step bl_ hb); have BK := am_ hbox; clear HB; have HB := n1_; clear n1_ hb hbox hg; have hcz1_0 := bc2_0 BK; have hcz1_1 := bc2_1 BK; have hfz1_0 := bf_ BK 0; have hfz1_1 := bf_ BK 1) | (go_at_call 56; (with_reducible refine (impl_compare.calls k A2 c2 la A1 c1 l1 r _ ?s1 hc2 ?s2 hc1 h).mono ?_); (case s1 => exact Kd.C_below HR2.out bl_); (case s2 => exact Kd.C_below HR1.out bl_); rintro e w9 ⟨rfl, hb⟩; have n1_ := am_ (below_step bl_ hb); clear HB; have HB := n1_; clear n1_ hb))
 go_ret
 exact ⟨rf_, bl_⟩
def impl_findSeries.l0 (l0 : List (S83)) (l1 : List (S108)) : Nat → Nat → Nat → Option Nat
 | 0, _, _ => none
 | k + 1, i, j => if i < j then (impl_compare.f k ((rd_T83 l0 (((i + j) / 2 : Nat) : Int)).f0) l1).bind fun c => (if c < 0 then impl_findSeries.l0 l0 l1 k ((i + j) / 2 + 1) j else impl_findSeries.l0 l0 l1 k i ((i + j) / 2)) else some i
theorem impl_findSeries.mono_l (l0 : List (S83)) (l1 : List (S108)) : ∀ k i j, LeO (impl_findSeries.l0 l0 l1 k i j) (impl_findSeries.l0 l0 l1 (k + 1) i j)
 | 0, _, _ => LeO.none _
 | k + 1, i, j => by
  have ih := impl_findSeries.mono_l l0 l1 k
  unfold impl_findSeries.l0
  exact LeO.ite (LeO.bind (impl_compare.mono _ _ _) (fun _ => LeO.ite (ih _ _) (ih _ _))) (LeO.refl _)
def impl_findSeries.e (k : Nat) (l0 : List (S83)) (l1 : List (S108)) (i : Nat) : Option (Int × Bool) := if i < l0.length then (impl_compare.f k ((rd_T83 l0 (i : Int)).f0) l1).bind fun c => some ((i : Int), c == 0) else some ((i : Int), false)
def impl_findSeries.f (k : Nat) (l0 : List (S83)) (l1 : List (S108)) : Option (Int × Bool) := if l0.length ≤ 4611686018427387904 then (impl_findSeries.l0 l0 l1 k 0 l0.length).bind fun i => impl_findSeries.e k l0 l1 i else none
theorem impl_findSeries.mono : ∀ a0 a1 k, LeO (impl_findSeries.f k a0 a1) (impl_findSeries.f (k + 1) a0 a1) := by
 intro a0 a1 k
 unfold impl_findSeries.f impl_findSeries.e
 exact LeO.ite (LeO.bind (impl_findSeries.mono_l _ _ _ _ _) (fun _ => LeO.ite (LeO.bind (impl_compare.mono _ _ _) (fun _ => LeO.refl _)) (LeO.refl _))) (LeO.refl _)
set_option maxHeartbeats 8000000 in
theorem impl_findSeries_b.calls (k : Nat) (A0 : Option Addr) (c0 : Nat) (l0 : List (S83)) (A1 : Option Addr) (c1 : Nat) (l1 : List (S108)) (r1 : Int) (r2 : Bool) (w : World) (hr0 : Kd.C k83 w A0 l0.length l0) (hc0 : l0.length ≤ c0) (hr1 : Kd.C k108 w A1 l1.length l1) (hc1 : l1.length ≤ c1) (h : impl_findSeries.f k l0 l1 = some (r1, r2)) :
  Calls Try.prog 101 #[.slice A0 l0.length c0, .slice A1 l1.length c1, .func (.func 102) #[] #[]] w fun e w' => e = .returned (.tuple #[.int .i64 r1, .bool r2]) ∧ Below w.heap.size w w' := by
 have hu := Try.underlying83
 have HR0 := am_ hr0
 have HR1 := am_ hr1
 clear hr0 hr1
 have HB := am_ (Below.refl w.heap.size w)
 unfold impl_findSeries.f at h
 by_cases hl : l0.length ≤ 4611686018427387904
 ·rw [if_pos hl] at h
  obtain ⟨s, hs, H2⟩ := Option.bind_eq_some_iff.mp h
  clear h
  have H2' := am_ H2
  have H' := am_ hs
  have HL := am_ hl
  clear H2 hs hl
  have eg : ∀ args w, (callFunc 102 args).run Try.prog w = .ok (.enter 102 args) w := fun args w => enters_ Try.func102 (by kernel_rfl) rfl args w
  go_enter Try.func101, Try.ntmps101
  go_wp2
  go_loopg [9, 10] k (fun kq v9 v10 w' => ∃ (i j : Nat), v9 = .int .i64 (i : Int) ∧ v10 = .int .i64 (j : Int) ∧ Aside0 (j ≤ l0.length) ∧ Aside0 (impl_findSeries.l0 l0 l1 kq i j = some s) ∧ Aside0 (Below w.heap.size w w'))
  case atStart => exact ⟨0, l0.length, rs_, rs_, ⟨Nat.le_refl _⟩, H', ⟨bl_⟩⟩
  case round =>
   clear H'
   obtain ⟨i, j, rfl, rfl, HJ, HA, HB⟩ := hrel
   cases gk with
   | zero => exact absurd HA.out (by simp [impl_findSeries.l0])
   | succ k1 =>
    have H := HA.out
    clear HA
    simp only [impl_findSeries.l0] at H
    by_cases c : i < j
    ·rw [if_pos c] at H
     have c0 : decide ((i : Int) < (j : Int)) = true := decide_eq_true (by omega)
     have hj := HJ.out
     have hl := HL.out
     obtain ⟨m, hm⟩ : ∃ m : Nat, m = (i + j) / 2 := ⟨_, rfl⟩
     rw [← hm] at H
     obtain ⟨I, hI⟩ : ∃ I : Int, (m : Int) = I := ⟨_, rfl⟩
     have em : wrap64 (IntKind.u64.wrap (wrap64 ((i : Int) + (j : Int))) / 2) = I := by rw [show wrap64 ((i : Int) + (j : Int)) = (i : Int) + (j : Int) from by unfold wrap64; omega, show IntKind.u64.wrap ((i : Int) + (j : Int)) = (i : Int) + (j : Int) from by simp [IntKind.wrap, IntKind.bits, IntKind.signed]; omega]; unfold wrap64; omega
     have ew : wrap64 (I + 1) = ((m + 1 : Nat) : Int) := by unfold wrap64; omega
     have h0 : 0 ≤ I := by omega
     have h1 : I < (l0.length : Int) := by omega
     have HM := am_ (show m < l0.length by omega)
     have HI := am_ hI
     rw [hI] at H
     clear hI
     obtain ⟨cc, hcc, H⟩ := Option.bind_eq_some_iff.mp H
     have HH := am_ H
     have HP0 := am_ hcc
     clear H hcc hm hj hl
     obtain ⟨ad, A2, cA, A3, cB, eA, hx0, hx1, hxc, hxr, _⟩ := at_T83 (Kd.C_below HR0.out HB.out) I h0 h1
     cases eA
     have HXR := am_ hxr
     have p_ := eq_true h0
     have q_ := eq_true h1
     clear h0 h1 hxr
     go_upto_region 5 with (fail)
     rw [em]
     have cb : decide (cc < 0) = decide (cc < 0) := rfl
     cases hd : decide (cc < 0) with
     | true =>
      have H' : Aside0 (impl_findSeries.l0 l0 l1 k1 (m + 1) j = some s) := ⟨by have h := HH.out; rw [if_pos (of_decide_eq_true hd)] at h; exact h⟩
      go_wp2_with (first | ((with_reducible refine Calls.mono (impl_findSeries_1.calls k1 A2 cA _ _ A1 c1 l1 cc wr HXR.out hxc (Kd.C_below HR1.out HB.out) hc1 HP0.out) ?_); rintro e w10 ⟨rfl, hb⟩; have n1_ := am_ (below_step HB.out hb); clear HB; have HB := n1_; clear n1_ hb))
      go_roundg k1
      case measure => omega
      case rel => exact ⟨m + 1, j, (by rw [← ew]), rs_, HJ, H', ⟨bl_⟩⟩
     | false =>
      have H' : Aside0 (impl_findSeries.l0 l0 l1 k1 i m = some s) := ⟨by have h := HH.out; rw [if_neg (of_decide_eq_false hd)] at h; exact h⟩
      go_wp2_with (first | ((with_reducible refine Calls.mono (impl_findSeries_1.calls k1 A2 cA _ _ A1 c1 l1 cc wr HXR.out hxc (Kd.C_below HR1.out HB.out) hc1 HP0.out) ?_); rintro e w10 ⟨rfl, hb⟩; have n1_ := am_ (below_step HB.out hb); clear HB; have HB := n1_; clear n1_ hb))
      go_roundg k1
      case measure => omega
      case rel => exact ⟨i, m, rs_, (by rw [HI.out]), ⟨by have := HM.out; have := HJ.out; omega⟩, H', ⟨bl_⟩⟩
    ·rw [if_neg c] at H
     obtain rfl := Option.some.inj H
     have c0 : decide ((i : Int) < (j : Int)) = false := decide_eq_false (by omega)
     have H3 := H2'.out
     clear H2' H
     unfold impl_findSeries.e at H3
     by_cases c2 : i < l0.length
     ·rw [if_pos c2] at H3
      obtain ⟨I, hI⟩ : ∃ I : Int, (i : Int) = I := ⟨_, rfl⟩
      rw [hI] at H3
      obtain ⟨cc, hcc, H3⟩ := Option.bind_eq_some_iff.mp H3
      simp only [Option.some.injEq, Prod.mk.injEq] at H3
      obtain ⟨rfl, rfl⟩ := H3
      have h0 : 0 ≤ I := by omega
      have h1 : I < (l0.length : Int) := by omega
      have c3 : decide (I < (l0.length : Int)) = true := decide_eq_true h1
      rw [hI] at c0
      try rw [hI]
      have HP0 := am_ hcc
      clear hcc hI c2
      obtain ⟨ad, A2, cA, A3, cB, eA, hx0, hx1, hxc, hxr, _⟩ := at_T83 (Kd.C_below HR0.out HB.out) I h0 h1
      cases eA
      have HXR := am_ hxr
      have p_ := eq_true h0
      have q_ := eq_true h1
      clear h0 h1 hxr
      go_wp2_with (first | ((with_reducible refine Calls.mono (impl_findSeries_1.calls k A2 cA _ _ A1 c1 l1 cc wr HXR.out hxc (Kd.C_below HR1.out HB.out) hc1 HP0.out) ?_); rintro e w10 ⟨rfl, hb⟩; have n1_ := am_ (below_step HB.out hb); clear HB; have HB := n1_; clear n1_ hb))
      go_ret2
      exact ⟨rf_, bl_⟩
     ·rw [if_neg c2] at H3
      simp only [Option.some.injEq, Prod.mk.injEq] at H3
      obtain ⟨rfl, rfl⟩ := H3
      have c3 : decide ((i : Int) < (l0.length : Int)) = false := decide_eq_false (by omega)
      go_wp2
      go_ret2
      exact ⟨rf_, bl_⟩
 ·rw [if_neg hl] at h
  cases h
set_option maxHeartbeats 4000000 in
theorem impl_findSeries.calls (k : Nat) (A0 : Option Addr) (c0 : Nat) (l0 : List (S83)) (A1 : Option Addr) (c1 : Nat) (l1 : List (S108)) (r1 : Int) (r2 : Bool) (w : World) (hr0 : Kd.C k83 w A0 l0.length l0) (hc0 : l0.length ≤ c0) (hr1 : Kd.C k108 w A1 l1.length l1) (hc1 : l1.length ≤ c1) (h : impl_findSeries.f k l0 l1 = some (r1, r2)) :
  Calls Try.prog 55 #[.slice A0 l0.length c0, .slice A1 l1.length c1] w fun e w' => e = .returned (.tuple #[.int .i64 r1, .bool r2]) ∧ Below w.heap.size w w' := by
 have HR0 := am_ hr0
 have HR1 := am_ hr1
 clear hr0 hr1
 have HB := am_ (Below.refl w.heap.size w)
 go_enter Try.func55, Try.ntmps55
 go_wp2_with (first | (go_at_call 101; (with_reducible refine (impl_findSeries_b.calls k A0 c0 l0 A1 c1 l1 r1 r2 _ HR0.out hc0 HR1.out hc1 h).mono ?_); rintro e w9 ⟨rfl, hb⟩; have n1_ := am_ (below_step bl_ hb); clear HB; have HB := n1_; clear n1_ hb))
 go_ret2
 exact ⟨rf_, bl_⟩

end Go.Proofs.Ytknlgignjbghkaa.Pr
