/- Functions of the given program as plain Lean functions, and that the machine's calls come to them; written by a program of this session; no condition but those that each theorem states. -/
import Derived.Test.YtnnlgbpfdnaalaaPrx0
import Derived.Test.YtnnlgbpfdnaalaaPrxgbb143n1
import Derived.Test.YtnnlgbpfdnaalaaPrxga2f4en1
namespace Go.Proofs.Ytnnlgbpfdnaalaa.Pr
open Go.RowKit Go.Proofs.YtnnlgbpfdnaalaaW.PrintWords Go.Proofs.YtnnlgbpfdnaalaaW.PrintLast Go.Proofs.YtnnlgbpfdnaalaaW.PrintMore
attribute [local go_sem] max2_int min2_int max_two min_two max_three min_three max_four min_four   -- for this text's walks alone
set_option linter.unusedVariables false
set_option linter.unusedSimpArgs false

/-! ### spec_PostOr: function 54 -/
mutual
def spec_PostOr.j0 : Nat → List Int → List Int → Bool → Option (List Int)
 | 0, _, _, _ => none
 | k + 1, x0, x1, x15 => if x15 = true then (some ([] : List Int)) else (spec_PostOr.l0 k x0 x1 ([] : List Int) 0 0)
def spec_PostOr.l0 : Nat → List Int → List Int → List Int → Int → Int → Option (List Int)
 | 0, _, _, _, _, _ => none
 | k + 1, x0, x1, x5, x6, x7 => if x6 < (x0.length : Int) then (spec_PostOr.j2 k x0 x1 x5 x6 x7 true) else (spec_PostOr.j2 k x0 x1 x5 x6 x7 (decide (x7 < (x1.length : Int))))
def spec_PostOr.j2 : Nat → List Int → List Int → List Int → Int → Int → Bool → Option (List Int)
 | 0, _, _, _, _, _, _ => none
 | k + 1, x0, x1, x5, x6, x7, x25 => if x25 = true then (if x7 = (x1.length : Int) then (spec_PostOr.j3 k x0 x1 x5 x6 x7 true) else (if x6 < (x0.length : Int) then (if 0 ≤ x6 then (if 0 ≤ x7 then (if x7 < (x1.length : Int) then (spec_PostOr.j3 k x0 x1 x5 x6 x7 (decide ((rd x0 x6) ≤ (rd x1 x7)))) else (none)) else (none)) else (none)) else (spec_PostOr.j3 k x0 x1 x5 x6 x7 false))) else (some x5)
def spec_PostOr.j3 : Nat → List Int → List Int → List Int → Int → Int → Bool → Option (List Int)
 | 0, _, _, _, _, _, _ => none
 | k + 1, x0, x1, x5, x6, x7, x46 => if x46 = true then (if x7 < (x1.length : Int) then (if 0 ≤ x6 then (if x6 < (x0.length : Int) then (if 0 ≤ x7 then (if (rd x0 x6) = (rd x1 x7) then (if x5.length < 17592186044416 then (spec_PostOr.l0 k x0 x1 (x5 ++ [rd x0 x6]) (wrap64 (x6 + 1)) (wrap64 (x7 + 1))) else (none)) else (if x5.length < 17592186044416 then (spec_PostOr.l0 k x0 x1 (x5 ++ [rd x0 x6]) (wrap64 (x6 + 1)) x7) else (none))) else (none)) else (none)) else (none)) else (if 0 ≤ x6 then (if x6 < (x0.length : Int) then (if x5.length < 17592186044416 then (spec_PostOr.l0 k x0 x1 (x5 ++ [rd x0 x6]) (wrap64 (x6 + 1)) x7) else (none)) else (none)) else (none))) else (if 0 ≤ x7 then (if x7 < (x1.length : Int) then (if x5.length < 17592186044416 then (spec_PostOr.l0 k x0 x1 (x5 ++ [rd x1 x7]) x6 (wrap64 (x7 + 1))) else (none)) else (none)) else (none))
end
def spec_PostOr.f (k : Nat) (l0 : List Int) (l1 : List Int) : Option (List Int) := (spec_l9Numbers.f k l0).bind fun t1001 => (if t1001 = true then ((spec_l9Numbers.f k l1).bind fun t1002 => (spec_PostOr.j0 k l0 l1 (!t1002))) else (spec_PostOr.j0 k l0 l1 true))
theorem spec_PostOr.mono_l : ∀ k, (∀ y0 y1 y2, LeO (spec_PostOr.j0 k y0 y1 y2) (spec_PostOr.j0 (k + 1) y0 y1 y2)) ∧ (∀ y0 y1 y2 y3 y4, LeO (spec_PostOr.l0 k y0 y1 y2 y3 y4) (spec_PostOr.l0 (k + 1) y0 y1 y2 y3 y4)) ∧ (∀ y0 y1 y2 y3 y4 y5, LeO (spec_PostOr.j2 k y0 y1 y2 y3 y4 y5) (spec_PostOr.j2 (k + 1) y0 y1 y2 y3 y4 y5)) ∧ (∀ y0 y1 y2 y3 y4 y5, LeO (spec_PostOr.j3 k y0 y1 y2 y3 y4 y5) (spec_PostOr.j3 (k + 1) y0 y1 y2 y3 y4 y5))
 | 0 => ⟨fun _ _ _ r h => by simp [spec_PostOr.j0] at h, fun _ _ _ _ _ r h => by simp [spec_PostOr.l0] at h, fun _ _ _ _ _ _ r h => by simp [spec_PostOr.j2] at h, fun _ _ _ _ _ _ r h => by simp [spec_PostOr.j3] at h⟩
 | k + 1 => by
  obtain ⟨ih0, ih1, ih2, ih3⟩ := spec_PostOr.mono_l k
  refine ⟨?_, ?_, ?_, ?_⟩
  ·intro y0 y1 y2
   unfold spec_PostOr.j0
   repeat' first
   | with_reducible first | exact ih0 _ _ _ | exact ih1 _ _ _ _ _ | exact ih2 _ _ _ _ _ _ | exact ih3 _ _ _ _ _ _ | exact spec_l9Numbers.mono _ _ | exact LeO.refl _ | exact LeO.none _ | refine LeO.ite ?_ ?_ | refine LeO.bind ?_ (fun _ => ?_)
   | exact ih0 _ _ _
   | exact ih1 _ _ _ _ _
   | exact ih2 _ _ _ _ _ _
   | exact ih3 _ _ _ _ _ _
   | exact spec_l9Numbers.mono _ _
   | exact LeO.none _
   | refine LeO.ite ?_ ?_
   | refine LeO.bind ?_ (fun _ => ?_)
  ·intro y0 y1 y2 y3 y4
   unfold spec_PostOr.l0
   repeat' first
   | with_reducible first | exact ih0 _ _ _ | exact ih1 _ _ _ _ _ | exact ih2 _ _ _ _ _ _ | exact ih3 _ _ _ _ _ _ | exact spec_l9Numbers.mono _ _ | exact LeO.refl _ | exact LeO.none _ | refine LeO.ite ?_ ?_ | refine LeO.bind ?_ (fun _ => ?_)
   | exact ih0 _ _ _
   | exact ih1 _ _ _ _ _
   | exact ih2 _ _ _ _ _ _
   | exact ih3 _ _ _ _ _ _
   | exact spec_l9Numbers.mono _ _
   | exact LeO.none _
   | refine LeO.ite ?_ ?_
   | refine LeO.bind ?_ (fun _ => ?_)
  ·intro y0 y1 y2 y3 y4 y5
   unfold spec_PostOr.j2
   repeat' first
   | with_reducible first | exact ih0 _ _ _ | exact ih1 _ _ _ _ _ | exact ih2 _ _ _ _ _ _ | exact ih3 _ _ _ _ _ _ | exact spec_l9Numbers.mono _ _ | exact LeO.refl _ | exact LeO.none _ | refine LeO.ite ?_ ?_ | refine LeO.bind ?_ (fun _ => ?_)
   | exact ih0 _ _ _
   | exact ih1 _ _ _ _ _
   | exact ih2 _ _ _ _ _ _
   | exact ih3 _ _ _ _ _ _
   | exact spec_l9Numbers.mono _ _
   | exact LeO.none _
   | refine LeO.ite ?_ ?_
   | refine LeO.bind ?_ (fun _ => ?_)
  ·intro y0 y1 y2 y3 y4 y5
   unfold spec_PostOr.j3
   repeat' first
   | with_reducible first | exact ih0 _ _ _ | exact ih1 _ _ _ _ _ | exact ih2 _ _ _ _ _ _ | exact ih3 _ _ _ _ _ _ | exact spec_l9Numbers.mono _ _ | exact LeO.refl _ | exact LeO.none _ | refine LeO.ite ?_ ?_ | refine LeO.bind ?_ (fun _ => ?_)
   | exact ih0 _ _ _
   | exact ih1 _ _ _ _ _
   | exact ih2 _ _ _ _ _ _
   | exact ih3 _ _ _ _ _ _
   | exact spec_l9Numbers.mono _ _
   | exact LeO.none _
   | refine LeO.ite ?_ ?_
   | refine LeO.bind ?_ (fun _ => ?_)
theorem spec_PostOr.mono : ∀ a0 a1 k, LeO (spec_PostOr.f k a0 a1) (spec_PostOr.f (k + 1) a0 a1) := by
 intro a0 a1 k
 obtain ⟨ih0, ih1, ih2, ih3⟩ := spec_PostOr.mono_l k
 unfold spec_PostOr.f
 repeat' first
   | with_reducible first | exact ih0 _ _ _ | exact ih1 _ _ _ _ _ | exact ih2 _ _ _ _ _ _ | exact ih3 _ _ _ _ _ _ | exact spec_l9Numbers.mono _ _ | exact LeO.refl _ | exact LeO.none _ | refine LeO.ite ?_ ?_ | refine LeO.bind ?_ (fun _ => ?_)
   | exact ih0 _ _ _
   | exact ih1 _ _ _ _ _
   | exact ih2 _ _ _ _ _ _
   | exact ih3 _ _ _ _ _ _
   | exact spec_l9Numbers.mono _ _
   | exact LeO.none _
   | refine LeO.ite ?_ ?_
   | refine LeO.bind ?_ (fun _ => ?_)
set_option maxHeartbeats 8000000 in
set_option maxRecDepth 100000 in
theorem spec_PostOr.calls (k : Nat) (A0 : Option Addr) (c0 : Nat) (l0 : List Int) (A1 : Option Addr) (c1 : Nat) (l1 : List Int) (r : List Int) (w : World) (hr0 : Kd.C (Kd.int .i64) w A0 l0.length l0) (hc0 : l0.length ≤ c0) (hr1 : Kd.C (Kd.int .i64) w A1 l1.length l1) (hc1 : l1.length ≤ c1) (h : spec_PostOr.f k l0 l1 = some r) :
  Calls Try.prog 54 #[.slice A0 l0.length c0, .slice A1 l1.length c1] w fun e w' => ∃ v0_ : Value, e = .returned (v0_) ∧ Kd.R (Kd.int .i64) 3 w' w.heap.size (fun _ => True) v0_ r ∧ Below w.heap.size w w' := by
 have HR0 := am_ hr0
 have HC0 := am_ hc0
 clear hr0 hc0
 have HR1 := am_ hr1
 have HC1 := am_ hc1
 clear hr1 hc1
 have HB := am_ (Below.refl w.heap.size w)
 have H : ((spec_l9Numbers.f k l0).bind fun t1001 => (if t1001 = true then ((spec_l9Numbers.f k l1).bind fun t1002 => (spec_PostOr.j0 k l0 l1 (!t1002))) else (spec_PostOr.j0 k l0 l1 true))) = some r := h
 clear h
 have HC3 := am_ H
 clear H
 go_enter Try.func54, Try.ntmps54
 go_upto_region 1 with (fail)
 repeat (go_quiet (fail); go_upto_region 1 with (fail))
 go_cut [15] (fun v15 wc => ∃ (kq : Nat) (x15_2 : Bool), v15 = .bool x15_2 ∧ Aside0 (spec_PostOr.j0 kq l0 l1 x15_2 = some r) ∧ Aside0 (kq ≤ k) ∧ Aside0 (Below w.heap.size w wc))
 case first =>
  have H := HC3.out
  clear HC3
  replace H := Option.bind_eq_some_iff.mp H
  obtain ⟨t1001, A40, H⟩ := H
  replace H : (if t1001 = true then ((spec_l9Numbers.f k l1).bind fun t1002 => (spec_PostOr.j0 k l0 l1 (!t1002))) else (spec_PostOr.j0 k l0 l1 true)) = some r := H
  have A4 := am_ A40
  clear A40
  by_cases c5 : t1001 = true
  ·subst c5
   have H1 : ((spec_l9Numbers.f k l1).bind fun t1002 => (spec_PostOr.j0 k l0 l1 (!t1002))) = some r := by rw [if_pos rfl] at H; exact H
   clear H
   have H := H1
   clear H1
   replace H := Option.bind_eq_some_iff.mp H
   obtain ⟨t1002, A60, H⟩ := H
   replace H : (spec_PostOr.j0 k l0 l1 (!t1002)) = some r := H
   have A6 := am_ A60
   clear A60
   have H' := am_ H
   clear H
   go_wp2_with (first | (go_at_call 102; (with_reducible refine (spec_l9Numbers.calls k _ _ l0 true _ ?side1 ?side2 A4.out).mono ?_); (case side1 => exact cc_ (Kd.C_below HR0.out HB.out)); (case side2 => exact HC0.out); rintro e w' ⟨rfl, ⟨nd, rfl⟩⟩; (try exact dd_)) | (go_at_call 102; (with_reducible refine (spec_l9Numbers.calls k _ _ l1 t1002 _ ?side1 ?side2 A6.out).mono ?_); (case side1 => exact cc_ (Kd.C_below HR1.out bl_)); (case side2 => exact HC1.out); rintro e w' ⟨rfl, ⟨nd, rfl⟩⟩; (try exact dd_)))
   repeat (go_quiet (first | (go_at_call 102; (with_reducible refine (spec_l9Numbers.calls k _ _ l0 true _ ?side1 ?side2 A4.out).mono ?_); (case side1 => exact cc_ (Kd.C_below HR0.out HB.out)); (case side2 => exact HC0.out); rintro e w' ⟨rfl, ⟨nd, rfl⟩⟩; (try exact dd_)) | (go_at_call 102; (with_reducible refine (spec_l9Numbers.calls k _ _ l1 t1002 _ ?side1 ?side2 A6.out).mono ?_); (case side1 => exact cc_ (Kd.C_below HR1.out bl_)); (case side2 => exact HC1.out); rintro e w' ⟨rfl, ⟨nd, rfl⟩⟩; (try exact dd_))); try go_wp2_with (first | (go_at_call 102; (with_reducible refine (spec_l9Numbers.calls k _ _ l0 true _ ?side1 ?side2 A4.out).mono ?_); (case side1 => exact cc_ (Kd.C_below HR0.out HB.out)); (case side2 => exact HC0.out); rintro e w' ⟨rfl, ⟨nd, rfl⟩⟩; (try exact dd_)) | (go_at_call 102; (with_reducible refine (spec_l9Numbers.calls k _ _ l1 t1002 _ ?side1 ?side2 A6.out).mono ?_); (case side1 => exact cc_ (Kd.C_below HR1.out bl_)); (case side2 => exact HC1.out); rintro e w' ⟨rfl, ⟨nd, rfl⟩⟩; (try exact dd_))))
   go_meet
   case rel => exact ⟨_, (!t1002), rs_, H', ⟨by first | omega | exact Nat.le_refl _⟩, ⟨bl_⟩⟩
  ·replace c5 := Bool.eq_false_iff.mpr c5
   subst c5
   have H1 : (spec_PostOr.j0 k l0 l1 true) = some r := by rw [if_neg (show ¬ (false = true) by decide)] at H; exact H
   clear H
   have H := H1
   clear H1
   have H' := am_ H
   clear H
   go_wp2_with (first | (go_at_call 102; (with_reducible refine (spec_l9Numbers.calls k _ _ l0 false _ ?side1 ?side2 A4.out).mono ?_); (case side1 => exact cc_ (Kd.C_below HR0.out HB.out)); (case side2 => exact HC0.out); rintro e w' ⟨rfl, ⟨nd, rfl⟩⟩; (try exact dd_)))
   repeat (go_quiet (first | (go_at_call 102; (with_reducible refine (spec_l9Numbers.calls k _ _ l0 false _ ?side1 ?side2 A4.out).mono ?_); (case side1 => exact cc_ (Kd.C_below HR0.out HB.out)); (case side2 => exact HC0.out); rintro e w' ⟨rfl, ⟨nd, rfl⟩⟩; (try exact dd_))); try go_wp2_with (first | (go_at_call 102; (with_reducible refine (spec_l9Numbers.calls k _ _ l0 false _ ?side1 ?side2 A4.out).mono ?_); (case side1 => exact cc_ (Kd.C_below HR0.out HB.out)); (case side2 => exact HC0.out); rintro e w' ⟨rfl, ⟨nd, rfl⟩⟩; (try exact dd_))))
   go_meet
   case rel => exact ⟨_, (true), rs_, H', ⟨by first | omega | exact Nat.le_refl _⟩, ⟨bl_⟩⟩
 case rest =>
  clear HC3
  try clear c1
  try clear p2
  try clear c5
  obtain ⟨kq, x15_2, rfl, HA, HJ2, HB⟩ := hcut
  cases kq with
  | zero => exact absurd HA.out (by simp [spec_PostOr.j0])
  | succ kj2 =>
   have H := HA.out
   clear HA
   simp only [spec_PostOr.j0] at H
   by_cases c7 : x15_2 = true
   ·subst c7
    have H1 : (some ([] : List Int)) = some r := by rw [if_pos rfl] at H; exact H
    clear H
    have H := H1
    clear H1
    obtain rfl := Option.some.inj H
    go_wp2
    repeat (go_quiet (fail); try go_wp2)
    go_ret
    exact ⟨_, rf_, ni_, bl_⟩
   ·replace c7 := Bool.eq_false_iff.mpr c7
    subst c7
    have H1 : (spec_PostOr.l0 kj2 l0 l1 ([] : List Int) 0 0) = some r := by rw [if_neg (show ¬ (false = true) by decide)] at H; exact H
    clear H
    have H := H1
    clear H1
    have H' := am_ H
    clear H
    go_wp2
    repeat (go_quiet (fail); try go_wp2)
    go_loopg [5, 6, 7] kj2 (fun kq v5 v6 v7 w' => ∃ (x5_2 : List Int) (x6_2 : Int) (x7_2 : Int), v6 = .int .i64 x6_2 ∧ v7 = .int .i64 x7_2 ∧ Aside0 (spec_PostOr.l0 kq l0 l1 x5_2 x6_2 x7_2 = some r) ∧ Aside0 (kq ≤ kj2) ∧ Aside0 (Kd.R (Kd.int .i64) 3 w' w.heap.size (fun _ => True) v5 x5_2) ∧ Aside0 (Below w.heap.size w w'))
    case atStart => exact ⟨(([] : List Int)), (0), (0), rs_, rs_, H', ⟨Nat.le_refl _⟩, ⟨ni_⟩, ⟨bl_⟩⟩
    case round =>
     clear H'
     try clear c1
     try clear p2
     try clear c5
     try clear c7
     try clear p2
     obtain ⟨x5_2, x6_2, x7_2, rfl, rfl, HA, HK2, HO_5, HB⟩ := hrel
     cases gk with
     | zero => exact absurd HA.out (by simp [spec_PostOr.l0])
     | succ k2 =>
      have H := HA.out
      clear HA
      simp only [spec_PostOr.l0] at H
      have HC8 := am_ H
      clear H
      go_upto_region 6 with (fail)
      repeat (go_quiet (fail); go_upto_region 6 with (fail))
      go_cut [25] (fun v25 wc => ∃ (kq : Nat) (x25_7 : Bool), v25 = .bool x25_7 ∧ Aside0 (spec_PostOr.j2 kq l0 l1 x5_2 x6_2 x7_2 x25_7 = some r) ∧ Aside0 (kq ≤ k2) ∧ Aside0 (Kd.R (Kd.int .i64) 3 wc w.heap.size (fun _ => True) u5 x5_2) ∧ Aside0 (Below w.heap.size w wc))
      case first =>
       have H := HC8.out
       clear HC8
       by_cases c9 : x6_2 < (l0.length : Int)
       ·rw [if_pos c9] at H
        have c9b0 : decide (x6_2 < (l0.length : Int)) = true := decide_eq_true c9
        clear c9
        (first | rw [c9b0] | (simp only [i64_w, i32_w]; rw [c9b0]) | skip)
        have H' := am_ H
        clear H
        go_wp2
        repeat (go_quiet (fail); try go_wp2)
        go_meet
        case rel => exact ⟨_, (true), rs_, H', ⟨by have := HJ2.out; have := HK2.out; first | omega | exact Nat.le_refl _⟩, ⟨ro_ HO_5⟩, ⟨bl_⟩⟩
       ·rw [if_neg c9] at H
        have c9b0 : decide (x6_2 < (l0.length : Int)) = false := decide_eq_false c9
        clear c9
        (first | rw [c9b0] | (simp only [i64_w, i32_w]; rw [c9b0]) | skip)
        have H' := am_ H
        clear H
        go_wp2
        repeat (go_quiet (fail); try go_wp2)
        go_meet
        case rel => exact ⟨_, (decide (x7_2 < (l1.length : Int))), rs_, H', ⟨by have := HJ2.out; have := HK2.out; first | omega | exact Nat.le_refl _⟩, ⟨ro_ HO_5⟩, ⟨bl_⟩⟩
      case rest =>
       clear HC8
       try clear c1
       try clear p2
       try clear c5
       try clear c7
       try clear c9
       try clear c9b0
       try clear p2
       obtain ⟨kq, x25_7, rfl, HA, HJ7, HO_5, HB⟩ := hcut
       cases kq with
       | zero => exact absurd HA.out (by simp [spec_PostOr.j2])
       | succ kj7 =>
        have H := HA.out
        clear HA
        simp only [spec_PostOr.j2] at H
        by_cases c10 : x25_7 = true
        ·subst c10
         have H1 : (if x7_2 = (l1.length : Int) then (spec_PostOr.j3 kj7 l0 l1 x5_2 x6_2 x7_2 true) else (if x6_2 < (l0.length : Int) then (if 0 ≤ x6_2 then (if 0 ≤ x7_2 then (if x7_2 < (l1.length : Int) then (spec_PostOr.j3 kj7 l0 l1 x5_2 x6_2 x7_2 (decide ((rd l0 x6_2) ≤ (rd l1 x7_2)))) else (none)) else (none)) else (none)) else (spec_PostOr.j3 kj7 l0 l1 x5_2 x6_2 x7_2 false))) = some r := by rw [if_pos rfl] at H; exact H
         clear H
         have H := H1
         clear H1
         have HC11 := am_ H
         clear H
         go_upto_region 7 with (fail)
         repeat (go_quiet (fail); go_upto_region 7 with (fail))
         go_cut [46] (fun v46 wc => ∃ (kq : Nat) (x46_10 : Bool), v46 = .bool x46_10 ∧ Aside0 (spec_PostOr.j3 kq l0 l1 x5_2 x6_2 x7_2 x46_10 = some r) ∧ Aside0 (kq ≤ kj7) ∧ Aside0 (Kd.R (Kd.int .i64) 3 wc w.heap.size (fun _ => True) u5 x5_2) ∧ Aside0 (Below w.heap.size w wc))
         case first =>
          have H := HC11.out
          clear HC11
          by_cases c12 : x7_2 = (l1.length : Int)
          ·rw [if_pos c12] at H
           have c12b0 : (x7_2 == (l1.length : Int)) = true := beq_iff_eq.mpr c12
           have c12b1 : (x7_2 != (l1.length : Int)) = false := bne_eq_false_iff_eq.mpr c12
           clear c12
           (first | rw [c12b0] | (simp only [i64_w, i32_w]; rw [c12b0]) | skip)
           have H' := am_ H
           clear H
           go_wp2
           repeat (go_quiet (fail); try go_wp2)
           go_meet
           case rel => exact ⟨_, (true), rs_, H', ⟨by have := HJ2.out; have := HK2.out; have := HJ7.out; first | omega | exact Nat.le_refl _⟩, ⟨ro_ HO_5⟩, ⟨bl_⟩⟩
          ·rw [if_neg c12] at H
           have c12b0 : (x7_2 == (l1.length : Int)) = false := beq_eq_false_iff_ne.mpr c12
           have c12b1 : (x7_2 != (l1.length : Int)) = true := bne_iff_ne.mpr c12
           (first | rw [c12b0] | (simp only [i64_w, i32_w]; rw [c12b0]) | skip)
           by_cases c13 : x6_2 < (l0.length : Int)
           ·rw [if_pos c13] at H
            have c13b0 : decide (x6_2 < (l0.length : Int)) = true := decide_eq_true c13
            clear c13
            by_cases c14 : 0 ≤ x6_2
            ·rw [if_pos c14] at H
             have c14b0 : decide (0 ≤ x6_2) = true := decide_eq_true c14
             clear c14
             by_cases c15 : 0 ≤ x7_2
             ·rw [if_pos c15] at H
              have c15b0 : decide (0 ≤ x7_2) = true := decide_eq_true c15
              clear c15
              by_cases c16 : x7_2 < (l1.length : Int)
              ·rw [if_pos c16] at H
               have c16b0 : decide (x7_2 < (l1.length : Int)) = true := decide_eq_true c16
               clear c16
               have H' := am_ H
               clear H
               have p1003 : 0 ≤ (x6_2 : Int) := od_
               have q1003 : x6_2 < (l0.length : Int) := od_
               obtain ⟨ad1003, e1003, hx1003_0⟩ := Kd.at_int HR0.out x6_2 p1003 q1003
               cases e1003
               replace hx1003_0 := kp_ HB hx1003_0
               replace p1003 := eq_true p1003
               replace q1003 := eq_true q1003
               have p1004 : 0 ≤ (x7_2 : Int) := od_
               have q1004 : x7_2 < (l1.length : Int) := od_
               obtain ⟨ad1004, e1004, hx1004_0⟩ := Kd.at_int HR1.out x7_2 p1004 q1004
               cases e1004
               replace hx1004_0 := kp_ HB hx1004_0
               replace p1004 := eq_true p1004
               replace q1004 := eq_true q1004
               go_wp2
               repeat (go_quiet (fail); try go_wp2)
               go_meet
               case rel => exact ⟨_, (decide ((rd l0 x6_2) ≤ (rd l1 x7_2))), rs_, H', ⟨by have := HJ2.out; have := HK2.out; have := HJ7.out; first | omega | exact Nat.le_refl _⟩, ⟨ro_ HO_5⟩, ⟨bl_⟩⟩
              ·rw [if_neg c16] at H
               exact absurd H (by simp)
             ·rw [if_neg c15] at H
              exact absurd H (by simp)
            ·rw [if_neg c14] at H
             exact absurd H (by simp)
           ·rw [if_neg c13] at H
            have c13b0 : decide (x6_2 < (l0.length : Int)) = false := decide_eq_false c13
            clear c13
            have H' := am_ H
            clear H
            go_wp2
            repeat (go_quiet (fail); try go_wp2)
            go_meet
            case rel => exact ⟨_, (false), rs_, H', ⟨by have := HJ2.out; have := HK2.out; have := HJ7.out; first | omega | exact Nat.le_refl _⟩, ⟨ro_ HO_5⟩, ⟨bl_⟩⟩
         case rest =>
          clear HC11
          try clear c1
          try clear p1
          try clear q1
          try clear hx1
          try clear p2
          try clear c5
          try clear c7
          try clear c9
          try clear c9b0
          try clear c10
          try clear p10
          try clear q10
          try clear hx10
          try clear c12
          try clear c12b0
          try clear c12b1
          try clear c13
          try clear c13b0
          try clear c14
          try clear c14b0
          try clear c15
          try clear c15b0
          try clear c16
          try clear c16b0
          try clear hx1003_0
          try clear hx1004_0
          try clear p1003
          try clear p1004
          try clear p2
          try clear q1003
          try clear q1004
          obtain ⟨kq, x46_10, rfl, HA, HJ10, HO_5, HB⟩ := hcut
          cases kq with
          | zero => exact absurd HA.out (by simp [spec_PostOr.j3])
          | succ kj10 =>
           have H := HA.out
           clear HA
           simp only [spec_PostOr.j3] at H
           by_cases c17 : x46_10 = true
           ·subst c17
            have H1 : (if x7_2 < (l1.length : Int) then (if 0 ≤ x6_2 then (if x6_2 < (l0.length : Int) then (if 0 ≤ x7_2 then (if (rd l0 x6_2) = (rd l1 x7_2) then (if x5_2.length < 17592186044416 then (spec_PostOr.l0 kj10 l0 l1 (x5_2 ++ [rd l0 x6_2]) (wrap64 (x6_2 + 1)) (wrap64 (x7_2 + 1))) else (none)) else (if x5_2.length < 17592186044416 then (spec_PostOr.l0 kj10 l0 l1 (x5_2 ++ [rd l0 x6_2]) (wrap64 (x6_2 + 1)) x7_2) else (none))) else (none)) else (none)) else (none)) else (if 0 ≤ x6_2 then (if x6_2 < (l0.length : Int) then (if x5_2.length < 17592186044416 then (spec_PostOr.l0 kj10 l0 l1 (x5_2 ++ [rd l0 x6_2]) (wrap64 (x6_2 + 1)) x7_2) else (none)) else (none)) else (none))) = some r := by rw [if_pos rfl] at H; exact H
            clear H
            have H := H1
            clear H1
            by_cases c18 : x7_2 < (l1.length : Int)
            ·rw [if_pos c18] at H
             have c18b0 : decide (x7_2 < (l1.length : Int)) = true := decide_eq_true c18
             clear c18
             by_cases c19 : 0 ≤ x6_2
             ·rw [if_pos c19] at H
              have c19b0 : decide (0 ≤ x6_2) = true := decide_eq_true c19
              clear c19
              by_cases c20 : x6_2 < (l0.length : Int)
              ·rw [if_pos c20] at H
               have c20b0 : decide (x6_2 < (l0.length : Int)) = true := decide_eq_true c20
               clear c20
               by_cases c21 : 0 ≤ x7_2
               ·rw [if_pos c21] at H
                have c21b0 : decide (0 ≤ x7_2) = true := decide_eq_true c21
                clear c21
                by_cases c22 : (rd l0 x6_2) = (rd l1 x7_2)
                ·rw [if_pos c22] at H
                 have c22b0 : ((rd l0 x6_2) == (rd l1 x7_2)) = true := beq_iff_eq.mpr c22
                 have c22b1 : ((rd l0 x6_2) != (rd l1 x7_2)) = false := bne_eq_false_iff_eq.mpr c22
                 clear c22
                 by_cases c23 : x5_2.length < 17592186044416
                 ·rw [if_pos c23] at H
                  have LMc23 := am_ c23
                  clear c23
                  obtain ⟨y1008, hy1008⟩ : ∃ y_ : List Int, y_ = (x5_2 ++ [rd l0 x6_2]) := ⟨_, rfl⟩
                  replace H : (spec_PostOr.l0 kj10 l0 l1 y1008 (wrap64 (x6_2 + 1)) (wrap64 (x7_2 + 1))) = some r := by first | (rw [hy1008]; with_reducible exact H) | (have H2_ := (Option.bind_some _ _).symm.trans H; rw [hy1008]; with_reducible exact H2_) | (have H2_ := (Option.bind_some _ _).symm.trans H; with_reducible exact H2_) | with_reducible exact H | (rw [hy1008]; exact H) | exact H
                  have Ny1008 := am_ hy1008
                  clear hy1008
                  have H' := am_ H
                  clear H
                  have p1005 : 0 ≤ (x6_2 : Int) := od_
                  have q1005 : x6_2 < (l0.length : Int) := od_
                  obtain ⟨ad1005, e1005, hx1005_0⟩ := Kd.at_int HR0.out x6_2 p1005 q1005
                  cases e1005
                  replace hx1005_0 := kp_ HB hx1005_0
                  replace p1005 := eq_true p1005
                  replace q1005 := eq_true q1005
                  have p1006 : 0 ≤ (x7_2 : Int) := od_
                  have q1006 : x7_2 < (l1.length : Int) := od_
                  obtain ⟨ad1006, e1006, hx1006_0⟩ := Kd.at_int HR1.out x7_2 p1006 q1006
                  cases e1006
                  replace hx1006_0 := kp_ HB hx1006_0
                  replace p1006 := eq_true p1006
                  replace q1006 := eq_true q1006
                  have p1007 : 0 ≤ (x6_2 : Int) := od_
                  have q1007 : x6_2 < (l0.length : Int) := od_
                  obtain ⟨ad1007, e1007, hx1007_0⟩ := Kd.at_int HR0.out x6_2 p1007 q1007
                  obtain rfl : ad1005 = ad1007 := (by injection e1007)
                  replace hx1007_0 := kp_ HB hx1007_0
                  replace p1007 := eq_true p1007
                  replace q1007 := eq_true q1007
                  go_wp2_with (first | ((with_reducible refine gate_builtin (b := .append) (xs := #[.tmp 64, .tmp 69]) rfl ?_); (try (refine gate_guard (by rfl) ?_; dsimp only)); at_builtin; refine Kd.R_append (Kd.int .i64) (w0 := w) w.heap.size rfl (.tmp 64) (.tmp 69) 64 3 (.int .i64 0) 8 rfl Try.underlying64 info3 rfl (by decide) (by omega) u5 x5_2 (rd l0 x6_2) [.int .i64 (rd l0 x6_2)] (fun _ => True) (fun _ => False) rfl rfl ?aP (fun _ hk => hk.elim) ?aF ?aO ?aB ?aS ?aL ?_; (case aP => exact rfl); (case aB => exact bl_); (case aF => exact (fun _ _ => trivial)); (case aO => exact (ro_ HO_5)); (case aS => exact (below_size bl_)); (case aL => have := LMc23.out; omega); intro v1009 w24 ho hb hg hat; rw [← Ny1008.out] at ho; have n0_ := am_ (hb); have n1_ := am_ (ho); clear HB; clear HO_5; have HB := n0_; have HO1010 := n1_; clear n0_ n1_; clear ho hb hg hat))
                  repeat (go_quiet (first | ((with_reducible refine gate_builtin (b := .append) (xs := #[.tmp 64, .tmp 69]) rfl ?_); (try (refine gate_guard (by rfl) ?_; dsimp only)); at_builtin; refine Kd.R_append (Kd.int .i64) (w0 := w) w.heap.size rfl (.tmp 64) (.tmp 69) 64 3 (.int .i64 0) 8 rfl Try.underlying64 info3 rfl (by decide) (by omega) u5 x5_2 (rd l0 x6_2) [.int .i64 (rd l0 x6_2)] (fun _ => True) (fun _ => False) rfl rfl ?aP (fun _ hk => hk.elim) ?aF ?aO ?aB ?aS ?aL ?_; (case aP => exact rfl); (case aB => exact bl_); (case aF => exact (fun _ _ => trivial)); (case aO => exact (ro_ HO_5)); (case aS => exact (below_size bl_)); (case aL => have := LMc23.out; omega); intro v1009 w24 ho hb hg hat; rw [← Ny1008.out] at ho; have n0_ := am_ (hb); have n1_ := am_ (ho); clear HB; clear HO_5; have HB := n0_; have HO1010 := n1_; clear n0_ n1_; clear ho hb hg hat)); try go_wp2_with (first | ((with_reducible refine gate_builtin (b := .append) (xs := #[.tmp 64, .tmp 69]) rfl ?_); (try (refine gate_guard (by rfl) ?_; dsimp only)); at_builtin; refine Kd.R_append (Kd.int .i64) (w0 := w) w.heap.size rfl (.tmp 64) (.tmp 69) 64 3 (.int .i64 0) 8 rfl Try.underlying64 info3 rfl (by decide) (by omega) u5 x5_2 (rd l0 x6_2) [.int .i64 (rd l0 x6_2)] (fun _ => True) (fun _ => False) rfl rfl ?aP (fun _ hk => hk.elim) ?aF ?aO ?aB ?aS ?aL ?_; (case aP => exact rfl); (case aB => exact bl_); (case aF => exact (fun _ _ => trivial)); (case aO => exact (ro_ HO_5)); (case aS => exact (below_size bl_)); (case aL => have := LMc23.out; omega); intro v1009 w24 ho hb hg hat; rw [← Ny1008.out] at ho; have n0_ := am_ (hb); have n1_ := am_ (ho); clear HB; clear HO_5; have HB := n0_; have HO1010 := n1_; clear n0_ n1_; clear ho hb hg hat)))
                  go_roundg kj10
                  case measure => have := HJ2.out; have := HK2.out; have := HJ7.out; have := HJ10.out; omega
                  case rel => exact ⟨(y1008), (wrap64 (x6_2 + 1)), (wrap64 (x7_2 + 1)), rs_, rs_, H', ⟨by have := HJ2.out; have := HK2.out; have := HJ7.out; have := HJ10.out; omega⟩, ⟨ro_ HO1010⟩, ⟨bl_⟩⟩
                 ·rw [if_neg c23] at H
                  exact absurd H (by simp)
                ·rw [if_neg c22] at H
                 have c22b0 : ((rd l0 x6_2) == (rd l1 x7_2)) = false := beq_eq_false_iff_ne.mpr c22
                 have c22b1 : ((rd l0 x6_2) != (rd l1 x7_2)) = true := bne_iff_ne.mpr c22
                 by_cases c25 : x5_2.length < 17592186044416
                 ·rw [if_pos c25] at H
                  have LMc25 := am_ c25
                  clear c25
                  obtain ⟨y1012, hy1012⟩ : ∃ y_ : List Int, y_ = (x5_2 ++ [rd l0 x6_2]) := ⟨_, rfl⟩
                  replace H : (spec_PostOr.l0 kj10 l0 l1 y1012 (wrap64 (x6_2 + 1)) x7_2) = some r := by first | (rw [hy1012]; with_reducible exact H) | (have H2_ := (Option.bind_some _ _).symm.trans H; rw [hy1012]; with_reducible exact H2_) | (have H2_ := (Option.bind_some _ _).symm.trans H; with_reducible exact H2_) | with_reducible exact H | (rw [hy1012]; exact H) | exact H
                  have Ny1012 := am_ hy1012
                  clear hy1012
                  have H' := am_ H
                  clear H
                  have p1005 : 0 ≤ (x6_2 : Int) := od_
                  have q1005 : x6_2 < (l0.length : Int) := od_
                  obtain ⟨ad1005, e1005, hx1005_0⟩ := Kd.at_int HR0.out x6_2 p1005 q1005
                  cases e1005
                  replace hx1005_0 := kp_ HB hx1005_0
                  replace p1005 := eq_true p1005
                  replace q1005 := eq_true q1005
                  have p1006 : 0 ≤ (x7_2 : Int) := od_
                  have q1006 : x7_2 < (l1.length : Int) := od_
                  obtain ⟨ad1006, e1006, hx1006_0⟩ := Kd.at_int HR1.out x7_2 p1006 q1006
                  cases e1006
                  replace hx1006_0 := kp_ HB hx1006_0
                  replace p1006 := eq_true p1006
                  replace q1006 := eq_true q1006
                  have p1011 : 0 ≤ (x6_2 : Int) := od_
                  have q1011 : x6_2 < (l0.length : Int) := od_
                  obtain ⟨ad1011, e1011, hx1011_0⟩ := Kd.at_int HR0.out x6_2 p1011 q1011
                  obtain rfl : ad1005 = ad1011 := (by injection e1011)
                  replace hx1011_0 := kp_ HB hx1011_0
                  replace p1011 := eq_true p1011
                  replace q1011 := eq_true q1011
                  go_wp2_with (first | ((with_reducible refine gate_builtin (b := .append) (xs := #[.tmp 64, .tmp 69]) rfl ?_); (try (refine gate_guard (by rfl) ?_; dsimp only)); at_builtin; refine Kd.R_append (Kd.int .i64) (w0 := w) w.heap.size rfl (.tmp 64) (.tmp 69) 64 3 (.int .i64 0) 8 rfl Try.underlying64 info3 rfl (by decide) (by omega) u5 x5_2 (rd l0 x6_2) [.int .i64 (rd l0 x6_2)] (fun _ => True) (fun _ => False) rfl rfl ?aP (fun _ hk => hk.elim) ?aF ?aO ?aB ?aS ?aL ?_; (case aP => exact rfl); (case aB => exact bl_); (case aF => exact (fun _ _ => trivial)); (case aO => exact (ro_ HO_5)); (case aS => exact (below_size bl_)); (case aL => have := LMc25.out; omega); intro v1013 w26 ho hb hg hat; rw [← Ny1012.out] at ho; have n0_ := am_ (hb); have n1_ := am_ (ho); clear HB; clear HO_5; have HB := n0_; have HO1014 := n1_; clear n0_ n1_; clear ho hb hg hat))
                  repeat (go_quiet (first | ((with_reducible refine gate_builtin (b := .append) (xs := #[.tmp 64, .tmp 69]) rfl ?_); (try (refine gate_guard (by rfl) ?_; dsimp only)); at_builtin; refine Kd.R_append (Kd.int .i64) (w0 := w) w.heap.size rfl (.tmp 64) (.tmp 69) 64 3 (.int .i64 0) 8 rfl Try.underlying64 info3 rfl (by decide) (by omega) u5 x5_2 (rd l0 x6_2) [.int .i64 (rd l0 x6_2)] (fun _ => True) (fun _ => False) rfl rfl ?aP (fun _ hk => hk.elim) ?aF ?aO ?aB ?aS ?aL ?_; (case aP => exact rfl); (case aB => exact bl_); (case aF => exact (fun _ _ => trivial)); (case aO => exact (ro_ HO_5)); (case aS => exact (below_size bl_)); (case aL => have := LMc25.out; omega); intro v1013 w26 ho hb hg hat; rw [← Ny1012.out] at ho; have n0_ := am_ (hb); have n1_ := am_ (ho); clear HB; clear HO_5; have HB := n0_; have HO1014 := n1_; clear n0_ n1_; clear ho hb hg hat)); try go_wp2_with (first | ((with_reducible refine gate_builtin (b := .append) (xs := #[.tmp 64, .tmp 69]) rfl ?_); (try (refine gate_guard (by rfl) ?_; dsimp only)); at_builtin; refine Kd.R_append (Kd.int .i64) (w0 := w) w.heap.size rfl (.tmp 64) (.tmp 69) 64 3 (.int .i64 0) 8 rfl Try.underlying64 info3 rfl (by decide) (by omega) u5 x5_2 (rd l0 x6_2) [.int .i64 (rd l0 x6_2)] (fun _ => True) (fun _ => False) rfl rfl ?aP (fun _ hk => hk.elim) ?aF ?aO ?aB ?aS ?aL ?_; (case aP => exact rfl); (case aB => exact bl_); (case aF => exact (fun _ _ => trivial)); (case aO => exact (ro_ HO_5)); (case aS => exact (below_size bl_)); (case aL => have := LMc25.out; omega); intro v1013 w26 ho hb hg hat; rw [← Ny1012.out] at ho; have n0_ := am_ (hb); have n1_ := am_ (ho); clear HB; clear HO_5; have HB := n0_; have HO1014 := n1_; clear n0_ n1_; clear ho hb hg hat)))
                  go_roundg kj10
                  case measure => have := HJ2.out; have := HK2.out; have := HJ7.out; have := HJ10.out; omega
                  case rel => exact ⟨(y1012), (wrap64 (x6_2 + 1)), (x7_2), rs_, rs_, H', ⟨by have := HJ2.out; have := HK2.out; have := HJ7.out; have := HJ10.out; omega⟩, ⟨ro_ HO1014⟩, ⟨bl_⟩⟩
                 ·rw [if_neg c25] at H
                  exact absurd H (by simp)
               ·rw [if_neg c21] at H
                exact absurd H (by simp)
              ·rw [if_neg c20] at H
               exact absurd H (by simp)
             ·rw [if_neg c19] at H
              exact absurd H (by simp)
            ·rw [if_neg c18] at H
             have c18b0 : decide (x7_2 < (l1.length : Int)) = false := decide_eq_false c18
             clear c18
             by_cases c27 : 0 ≤ x6_2
             ·rw [if_pos c27] at H
              have c27b0 : decide (0 ≤ x6_2) = true := decide_eq_true c27
              clear c27
              by_cases c28 : x6_2 < (l0.length : Int)
              ·rw [if_pos c28] at H
               have c28b0 : decide (x6_2 < (l0.length : Int)) = true := decide_eq_true c28
               clear c28
               by_cases c29 : x5_2.length < 17592186044416
               ·rw [if_pos c29] at H
                have LMc29 := am_ c29
                clear c29
                obtain ⟨y1016, hy1016⟩ : ∃ y_ : List Int, y_ = (x5_2 ++ [rd l0 x6_2]) := ⟨_, rfl⟩
                replace H : (spec_PostOr.l0 kj10 l0 l1 y1016 (wrap64 (x6_2 + 1)) x7_2) = some r := by first | (rw [hy1016]; with_reducible exact H) | (have H2_ := (Option.bind_some _ _).symm.trans H; rw [hy1016]; with_reducible exact H2_) | (have H2_ := (Option.bind_some _ _).symm.trans H; with_reducible exact H2_) | with_reducible exact H | (rw [hy1016]; exact H) | exact H
                have Ny1016 := am_ hy1016
                clear hy1016
                have H' := am_ H
                clear H
                have p1015 : 0 ≤ (x6_2 : Int) := od_
                have q1015 : x6_2 < (l0.length : Int) := od_
                obtain ⟨ad1015, e1015, hx1015_0⟩ := Kd.at_int HR0.out x6_2 p1015 q1015
                cases e1015
                replace hx1015_0 := kp_ HB hx1015_0
                replace p1015 := eq_true p1015
                replace q1015 := eq_true q1015
                go_wp2_with (first | ((with_reducible refine gate_builtin (b := .append) (xs := #[.tmp 64, .tmp 69]) rfl ?_); (try (refine gate_guard (by rfl) ?_; dsimp only)); at_builtin; refine Kd.R_append (Kd.int .i64) (w0 := w) w.heap.size rfl (.tmp 64) (.tmp 69) 64 3 (.int .i64 0) 8 rfl Try.underlying64 info3 rfl (by decide) (by omega) u5 x5_2 (rd l0 x6_2) [.int .i64 (rd l0 x6_2)] (fun _ => True) (fun _ => False) rfl rfl ?aP (fun _ hk => hk.elim) ?aF ?aO ?aB ?aS ?aL ?_; (case aP => exact rfl); (case aB => exact bl_); (case aF => exact (fun _ _ => trivial)); (case aO => exact (ro_ HO_5)); (case aS => exact (below_size bl_)); (case aL => have := LMc29.out; omega); intro v1017 w30 ho hb hg hat; rw [← Ny1016.out] at ho; have n0_ := am_ (hb); have n1_ := am_ (ho); clear HB; clear HO_5; have HB := n0_; have HO1018 := n1_; clear n0_ n1_; clear ho hb hg hat))
                repeat (go_quiet (first | ((with_reducible refine gate_builtin (b := .append) (xs := #[.tmp 64, .tmp 69]) rfl ?_); (try (refine gate_guard (by rfl) ?_; dsimp only)); at_builtin; refine Kd.R_append (Kd.int .i64) (w0 := w) w.heap.size rfl (.tmp 64) (.tmp 69) 64 3 (.int .i64 0) 8 rfl Try.underlying64 info3 rfl (by decide) (by omega) u5 x5_2 (rd l0 x6_2) [.int .i64 (rd l0 x6_2)] (fun _ => True) (fun _ => False) rfl rfl ?aP (fun _ hk => hk.elim) ?aF ?aO ?aB ?aS ?aL ?_; (case aP => exact rfl); (case aB => exact bl_); (case aF => exact (fun _ _ => trivial)); (case aO => exact (ro_ HO_5)); (case aS => exact (below_size bl_)); (case aL => have := LMc29.out; omega); intro v1017 w30 ho hb hg hat; rw [← Ny1016.out] at ho; have n0_ := am_ (hb); have n1_ := am_ (ho); clear HB; clear HO_5; have HB := n0_; have HO1018 := n1_; clear n0_ n1_; clear ho hb hg hat)); try go_wp2_with (first | ((with_reducible refine gate_builtin (b := .append) (xs := #[.tmp 64, .tmp 69]) rfl ?_); (try (refine gate_guard (by rfl) ?_; dsimp only)); at_builtin; refine Kd.R_append (Kd.int .i64) (w0 := w) w.heap.size rfl (.tmp 64) (.tmp 69) 64 3 (.int .i64 0) 8 rfl Try.underlying64 info3 rfl (by decide) (by omega) u5 x5_2 (rd l0 x6_2) [.int .i64 (rd l0 x6_2)] (fun _ => True) (fun _ => False) rfl rfl ?aP (fun _ hk => hk.elim) ?aF ?aO ?aB ?aS ?aL ?_; (case aP => exact rfl); (case aB => exact bl_); (case aF => exact (fun _ _ => trivial)); (case aO => exact (ro_ HO_5)); (case aS => exact (below_size bl_)); (case aL => have := LMc29.out; omega); intro v1017 w30 ho hb hg hat; rw [← Ny1016.out] at ho; have n0_ := am_ (hb); have n1_ := am_ (ho); clear HB; clear HO_5; have HB := n0_; have HO1018 := n1_; clear n0_ n1_; clear ho hb hg hat)))
                go_roundg kj10
                case measure => have := HJ2.out; have := HK2.out; have := HJ7.out; have := HJ10.out; omega
                case rel => exact ⟨(y1016), (wrap64 (x6_2 + 1)), (x7_2), rs_, rs_, H', ⟨by have := HJ2.out; have := HK2.out; have := HJ7.out; have := HJ10.out; omega⟩, ⟨ro_ HO1018⟩, ⟨bl_⟩⟩
               ·rw [if_neg c29] at H
                exact absurd H (by simp)
              ·rw [if_neg c28] at H
               exact absurd H (by simp)
             ·rw [if_neg c27] at H
              exact absurd H (by simp)
           ·replace c17 := Bool.eq_false_iff.mpr c17
            subst c17
            have H1 : (if 0 ≤ x7_2 then (if x7_2 < (l1.length : Int) then (if x5_2.length < 17592186044416 then (spec_PostOr.l0 kj10 l0 l1 (x5_2 ++ [rd l1 x7_2]) x6_2 (wrap64 (x7_2 + 1))) else (none)) else (none)) else (none)) = some r := by rw [if_neg (show ¬ (false = true) by decide)] at H; exact H
            clear H
            have H := H1
            clear H1
            by_cases c31 : 0 ≤ x7_2
            ·rw [if_pos c31] at H
             have c31b0 : decide (0 ≤ x7_2) = true := decide_eq_true c31
             clear c31
             by_cases c32 : x7_2 < (l1.length : Int)
             ·rw [if_pos c32] at H
              have c32b0 : decide (x7_2 < (l1.length : Int)) = true := decide_eq_true c32
              clear c32
              by_cases c33 : x5_2.length < 17592186044416
              ·rw [if_pos c33] at H
               have LMc33 := am_ c33
               clear c33
               obtain ⟨y1020, hy1020⟩ : ∃ y_ : List Int, y_ = (x5_2 ++ [rd l1 x7_2]) := ⟨_, rfl⟩
               replace H : (spec_PostOr.l0 kj10 l0 l1 y1020 x6_2 (wrap64 (x7_2 + 1))) = some r := by first | (rw [hy1020]; with_reducible exact H) | (have H2_ := (Option.bind_some _ _).symm.trans H; rw [hy1020]; with_reducible exact H2_) | (have H2_ := (Option.bind_some _ _).symm.trans H; with_reducible exact H2_) | with_reducible exact H | (rw [hy1020]; exact H) | exact H
               have Ny1020 := am_ hy1020
               clear hy1020
               have H' := am_ H
               clear H
               have p1019 : 0 ≤ (x7_2 : Int) := od_
               have q1019 : x7_2 < (l1.length : Int) := od_
               obtain ⟨ad1019, e1019, hx1019_0⟩ := Kd.at_int HR1.out x7_2 p1019 q1019
               cases e1019
               replace hx1019_0 := kp_ HB hx1019_0
               replace p1019 := eq_true p1019
               replace q1019 := eq_true q1019
               go_wp2_with (first | ((with_reducible refine gate_builtin (b := .append) (xs := #[.tmp 73, .tmp 78]) rfl ?_); (try (refine gate_guard (by rfl) ?_; dsimp only)); at_builtin; refine Kd.R_append (Kd.int .i64) (w0 := w) w.heap.size rfl (.tmp 73) (.tmp 78) 64 3 (.int .i64 0) 8 rfl Try.underlying64 info3 rfl (by decide) (by omega) u5 x5_2 (rd l1 x7_2) [.int .i64 (rd l1 x7_2)] (fun _ => True) (fun _ => False) rfl rfl ?aP (fun _ hk => hk.elim) ?aF ?aO ?aB ?aS ?aL ?_; (case aP => exact rfl); (case aB => exact bl_); (case aF => exact (fun _ _ => trivial)); (case aO => exact (ro_ HO_5)); (case aS => exact (below_size bl_)); (case aL => have := LMc33.out; omega); intro v1021 w34 ho hb hg hat; rw [← Ny1020.out] at ho; have n0_ := am_ (hb); have n1_ := am_ (ho); clear HB; clear HO_5; have HB := n0_; have HO1022 := n1_; clear n0_ n1_; clear ho hb hg hat))
               repeat (go_quiet (first | ((with_reducible refine gate_builtin (b := .append) (xs := #[.tmp 73, .tmp 78]) rfl ?_); (try (refine gate_guard (by rfl) ?_; dsimp only)); at_builtin; refine Kd.R_append (Kd.int .i64) (w0 := w) w.heap.size rfl (.tmp 73) (.tmp 78) 64 3 (.int .i64 0) 8 rfl Try.underlying64 info3 rfl (by decide) (by omega) u5 x5_2 (rd l1 x7_2) [.int .i64 (rd l1 x7_2)] (fun _ => True) (fun _ => False) rfl rfl ?aP (fun _ hk => hk.elim) ?aF ?aO ?aB ?aS ?aL ?_; (case aP => exact rfl); (case aB => exact bl_); (case aF => exact (fun _ _ => trivial)); (case aO => exact (ro_ HO_5)); (case aS => exact (below_size bl_)); (case aL => have := LMc33.out; omega); intro v1021 w34 ho hb hg hat; rw [← Ny1020.out] at ho; have n0_ := am_ (hb); have n1_ := am_ (ho); clear HB; clear HO_5; have HB := n0_; have HO1022 := n1_; clear n0_ n1_; clear ho hb hg hat)); try go_wp2_with (first | ((with_reducible refine gate_builtin (b := .append) (xs := #[.tmp 73, .tmp 78]) rfl ?_); (try (refine gate_guard (by rfl) ?_; dsimp only)); at_builtin; refine Kd.R_append (Kd.int .i64) (w0 := w) w.heap.size rfl (.tmp 73) (.tmp 78) 64 3 (.int .i64 0) 8 rfl Try.underlying64 info3 rfl (by decide) (by omega) u5 x5_2 (rd l1 x7_2) [.int .i64 (rd l1 x7_2)] (fun _ => True) (fun _ => False) rfl rfl ?aP (fun _ hk => hk.elim) ?aF ?aO ?aB ?aS ?aL ?_; (case aP => exact rfl); (case aB => exact bl_); (case aF => exact (fun _ _ => trivial)); (case aO => exact (ro_ HO_5)); (case aS => exact (below_size bl_)); (case aL => have := LMc33.out; omega); intro v1021 w34 ho hb hg hat; rw [← Ny1020.out] at ho; have n0_ := am_ (hb); have n1_ := am_ (ho); clear HB; clear HO_5; have HB := n0_; have HO1022 := n1_; clear n0_ n1_; clear ho hb hg hat)))
               go_roundg kj10
               case measure => have := HJ2.out; have := HK2.out; have := HJ7.out; have := HJ10.out; omega
               case rel => exact ⟨(y1020), (x6_2), (wrap64 (x7_2 + 1)), rs_, rs_, H', ⟨by have := HJ2.out; have := HK2.out; have := HJ7.out; have := HJ10.out; omega⟩, ⟨ro_ HO1022⟩, ⟨bl_⟩⟩
              ·rw [if_neg c33] at H
               exact absurd H (by simp)
             ·rw [if_neg c32] at H
              exact absurd H (by simp)
            ·rw [if_neg c31] at H
             exact absurd H (by simp)
        ·replace c10 := Bool.eq_false_iff.mpr c10
         subst c10
         have H1 : (some x5_2) = some r := by rw [if_neg (show ¬ (false = true) by decide)] at H; exact H
         clear H
         have H := H1
         clear H1
         obtain rfl := Option.some.inj H
         go_wp2
         repeat (go_quiet (fail); try go_wp2)
         go_ret
         exact ⟨_, rf_, by (with_reducible repeat (first | apply Kd.R_alloc | apply Kd.R_drewN | apply Kd.R_drew)); exact HO_5.out, bl_⟩

/-! ### impl_PostOr: function 55 -/
set_option maxHeartbeats 4000000 in
theorem impl_PostOr_1.calls (a b : Bool) (w : World) : Calls Try.prog 107 #[.bool a, .bool b] w fun e w' => e = .returned (.bool ((fun _ _ => true) a b)) ∧ Below w.heap.size w w' := by
  have HB := am_ (Below.refl w.heap.size w)
  go_enter Try.func107, Try.ntmps107
  cases a <;> cases b <;>
    (go_wp2
     go_ret
     exact ⟨rf_, bl_⟩)
def impl_PostOr.f (k : Nat) (l0 l1 : List Int) : Option (List Int) := impl_posts.f k (fun _ _ => true) l0 l1
theorem impl_PostOr.mono : ∀ a0 a1 k, LeO (impl_PostOr.f k a0 a1) (impl_PostOr.f (k + 1) a0 a1) := fun a0 a1 k => impl_posts.mono _ a0 a1 k
set_option maxHeartbeats 4000000 in
theorem impl_PostOr.calls (k : Nat) (A0 : Option Addr) (c0 : Nat) (l0 : List Int) (A1 : Option Addr) (c1 : Nat) (l1 : List Int) (r : List Int) (w : World) (hr0 : Kd.C (Kd.int .i64) w A0 l0.length l0) (hc0 : l0.length ≤ c0) (hr1 : Kd.C (Kd.int .i64) w A1 l1.length l1) (hc1 : l1.length ≤ c1) (h : impl_PostOr.f k l0 l1 = some r) :
    Calls Try.prog 55 #[.slice A0 l0.length c0, .slice A1 l1.length c1] w fun e w' => ∃ v0_ : Value, e = .returned (v0_) ∧ Kd.R (Kd.int .i64) 3 w' w.heap.size (fun _ => True) v0_ r ∧ Below w.heap.size w w' := by
  have HB := am_ (Below.refl w.heap.size w)
  have H := am_ h
  clear h
  go_enter Try.func55, Try.ntmps55
  go_wp2_with (first | (go_at_call 104; refine (impl_posts.calls k (fun _ _ => true) 107 #[] (fun args w => enters_ Try.func107 (by kernel_rfl) rfl args w) (fun W a b => impl_PostOr_1.calls a b W) A0 c0 l0 A1 c1 l1 r w hr0 hc0 hr1 hc1 H.out).mono ?_; rintro e w8 ⟨v0, rfl, ho, hb⟩; have HO := am_ ho; clear HB; have HB := am_ hb; clear ho hb))
  go_ret
  exact ⟨_, rf_, HO.out, bl_⟩

/-! ### laws_FnExactPostOr: function 12 -/
def laws_FnExactPostOr.j0 : Nat → List Int → List Int → List Int → List Int → Bool → Option (Bool)
 | 0, _, _, _, _, _ => none
 | k + 1, x0, x1, x5, x8, x58 => if x58 = true then (none) else ((laws_markIntS.f k x8 1).bind fun bt1033 => ((laws_heldIntS.f k bt1033.2 1).bind fun t1035 => (if t1035 < 0 then (none) else (if t1035 = bt1033.1 then ((laws_toIntS.f k x0).bind fun t1036 => ((laws_toIntS.f k x1).bind fun t1039 => ((impl_PostOr.f k t1036 t1039).bind fun t1042 => ((laws_eqIntS.f k t1042 x5).bind fun t1045 => (if t1045 = true then ((laws_heldIntS.f k bt1033.2 1).bind fun t1046 => (if t1046 < 0 then (none) else (if t1046 = bt1033.1 then (some true) else (none)))) else (none)))))) else (none)))))
def laws_FnExactPostOr.f (k : Nat) (l0 : List Int) (l1 : List Int) : Option (Bool) := if (l0.length : Int) > 1048576 then (some true) else (if (l1.length : Int) > 1048576 then (some true) else ((laws_toIntS.f k l0).bind fun t1001 => ((laws_toIntS.f k l1).bind fun t1004 => ((spec_PostOr.f k t1001 t1004).bind fun t1007 => ((laws_toIntS.f k l0).bind fun t1010 => ((laws_toIntS.f k l1).bind fun t1013 => ((impl_PostOr.f k t1010 t1013).bind fun t1016 => ((laws_eqIntS.f k t1016 t1007).bind fun t1019 => (if t1019 = true then ((laws_toIntS.f k l0).bind fun t1020 => ((laws_eqIntS.f k t1010 t1020).bind fun t1023 => (if t1023 = true then ((laws_toIntS.f k l1).bind fun t1024 => ((laws_eqIntS.f k t1013 t1024).bind fun t1027 => (if t1027 = true then ((laws_markIntS.f k t1010 1).bind fun bt1028 => ((laws_markIntS.f k t1013 bt1028.1).bind fun bt1030 => (if bt1030.1 < 0 then (laws_FnExactPostOr.j0 k l0 l1 t1007 t1016 true) else ((laws_eqIntS.f k t1016 t1007).bind fun t1032 => (laws_FnExactPostOr.j0 k l0 l1 t1007 t1016 (!t1032)))))) else (none)))) else (none)))) else (none))))))))))
theorem laws_FnExactPostOr.mono_l : ∀ k, (∀ y0 y1 y2 y3 y4, LeO (laws_FnExactPostOr.j0 k y0 y1 y2 y3 y4) (laws_FnExactPostOr.j0 (k + 1) y0 y1 y2 y3 y4))
 | 0 => fun _ _ _ _ _ r h => by simp [laws_FnExactPostOr.j0] at h
 | k + 1 => by
  have ih0 := laws_FnExactPostOr.mono_l k
  ·intro y0 y1 y2 y3 y4
   unfold laws_FnExactPostOr.j0
   repeat' first
   | with_reducible first | exact ih0 _ _ _ _ _ | exact impl_PostOr.mono _ _ _ | exact laws_eqIntS.mono _ _ _ | exact laws_heldIntS.mono _ _ _ | exact laws_markIntS.mono _ _ _ | exact laws_toIntS.mono _ _ | exact spec_PostOr.mono _ _ _ | exact LeO.refl _ | exact LeO.none _ | refine LeO.ite ?_ ?_ | refine LeO.bind ?_ (fun _ => ?_)
   | exact ih0 _ _ _ _ _
   | exact impl_PostOr.mono _ _ _
   | exact laws_eqIntS.mono _ _ _
   | exact laws_heldIntS.mono _ _ _
   | exact laws_markIntS.mono _ _ _
   | exact laws_toIntS.mono _ _
   | exact spec_PostOr.mono _ _ _
   | exact LeO.none _
   | refine LeO.ite ?_ ?_
   | refine LeO.bind ?_ (fun _ => ?_)
theorem laws_FnExactPostOr.mono : ∀ a0 a1 k, LeO (laws_FnExactPostOr.f k a0 a1) (laws_FnExactPostOr.f (k + 1) a0 a1) := by
 intro a0 a1 k
 have ih0 := laws_FnExactPostOr.mono_l k
 unfold laws_FnExactPostOr.f
 repeat' first
   | with_reducible first | exact ih0 _ _ _ _ _ | exact impl_PostOr.mono _ _ _ | exact laws_eqIntS.mono _ _ _ | exact laws_heldIntS.mono _ _ _ | exact laws_markIntS.mono _ _ _ | exact laws_toIntS.mono _ _ | exact spec_PostOr.mono _ _ _ | exact LeO.refl _ | exact LeO.none _ | refine LeO.ite ?_ ?_ | refine LeO.bind ?_ (fun _ => ?_)
   | exact ih0 _ _ _ _ _
   | exact impl_PostOr.mono _ _ _
   | exact laws_eqIntS.mono _ _ _
   | exact laws_heldIntS.mono _ _ _
   | exact laws_markIntS.mono _ _ _
   | exact laws_toIntS.mono _ _
   | exact spec_PostOr.mono _ _ _
   | exact LeO.none _
   | refine LeO.ite ?_ ?_
   | refine LeO.bind ?_ (fun _ => ?_)
set_option maxHeartbeats 8000000 in
set_option maxRecDepth 100000 in
theorem laws_FnExactPostOr.calls (k : Nat) (A0 : Option Addr) (c0 : Nat) (l0 : List Int) (A1 : Option Addr) (c1 : Nat) (l1 : List Int) (r : Bool) (w : World) (hr0 : Kd.C (Kd.int .i64) w A0 l0.length l0) (hc0 : l0.length ≤ c0) (hr1 : Kd.C (Kd.int .i64) w A1 l1.length l1) (hc1 : l1.length ≤ c1) (h : laws_FnExactPostOr.f k l0 l1 = some r) :
  Calls Try.prog 12 #[.slice A0 l0.length c0, .slice A1 l1.length c1] w fun e w' => e = .returned (.bool r) ∧ Below w.heap.size w w' := by
 have HR0 := am_ hr0
 have HC0 := am_ hc0
 clear hr0 hc0
 have HR1 := am_ hr1
 have HC1 := am_ hc1
 clear hr1 hc1
 have HB := am_ (Below.refl w.heap.size w)
 have H : (if (l0.length : Int) > 1048576 then (some true) else (if (l1.length : Int) > 1048576 then (some true) else ((laws_toIntS.f k l0).bind fun t1001 => ((laws_toIntS.f k l1).bind fun t1004 => ((spec_PostOr.f k t1001 t1004).bind fun t1007 => ((laws_toIntS.f k l0).bind fun t1010 => ((laws_toIntS.f k l1).bind fun t1013 => ((impl_PostOr.f k t1010 t1013).bind fun t1016 => ((laws_eqIntS.f k t1016 t1007).bind fun t1019 => (if t1019 = true then ((laws_toIntS.f k l0).bind fun t1020 => ((laws_eqIntS.f k t1010 t1020).bind fun t1023 => (if t1023 = true then ((laws_toIntS.f k l1).bind fun t1024 => ((laws_eqIntS.f k t1013 t1024).bind fun t1027 => (if t1027 = true then ((laws_markIntS.f k t1010 1).bind fun bt1028 => ((laws_markIntS.f k t1013 bt1028.1).bind fun bt1030 => (if bt1030.1 < 0 then (laws_FnExactPostOr.j0 k l0 l1 t1007 t1016 true) else ((laws_eqIntS.f k t1016 t1007).bind fun t1032 => (laws_FnExactPostOr.j0 k l0 l1 t1007 t1016 (!t1032)))))) else (none)))) else (none)))) else (none))))))))))) = some r := h
 clear h
 by_cases c3 : (l0.length : Int) > 1048576
 ·rw [if_pos c3] at H
  have c3b0 : decide (1048576 < (l0.length : Int)) = true := decide_eq_true c3
  have c3b1 : decide (1048576 < l0.length) = true := decide_eq_true (by omega)
  clear c3
  obtain rfl := Option.some.inj H
  go_enter Try.func12, Try.ntmps12
  go_wp2
  go_ret
  exact ⟨rf_, bl_⟩
 ·rw [if_neg c3] at H
  have c3b0 : decide (1048576 < (l0.length : Int)) = false := decide_eq_false c3
  have c3b1 : decide (1048576 < l0.length) = false := decide_eq_false (by omega)
  clear c3
  by_cases c4 : (l1.length : Int) > 1048576
  ·rw [if_pos c4] at H
   have c4b0 : decide (1048576 < (l1.length : Int)) = true := decide_eq_true c4
   have c4b1 : decide (1048576 < l1.length) = true := decide_eq_true (by omega)
   clear c4
   obtain rfl := Option.some.inj H
   go_enter Try.func12, Try.ntmps12
   go_wp2
   go_ret
   exact ⟨rf_, bl_⟩
  ·rw [if_neg c4] at H
   have c4b0 : decide (1048576 < (l1.length : Int)) = false := decide_eq_false c4
   have c4b1 : decide (1048576 < l1.length) = false := decide_eq_false (by omega)
   clear c4
   replace H := Option.bind_eq_some_iff.mp H
   obtain ⟨t1001, A50, H⟩ := H
   replace H : ((laws_toIntS.f k l1).bind fun t1004 => ((spec_PostOr.f k t1001 t1004).bind fun t1007 => ((laws_toIntS.f k l0).bind fun t1010 => ((laws_toIntS.f k l1).bind fun t1013 => ((impl_PostOr.f k t1010 t1013).bind fun t1016 => ((laws_eqIntS.f k t1016 t1007).bind fun t1019 => (if t1019 = true then ((laws_toIntS.f k l0).bind fun t1020 => ((laws_eqIntS.f k t1010 t1020).bind fun t1023 => (if t1023 = true then ((laws_toIntS.f k l1).bind fun t1024 => ((laws_eqIntS.f k t1013 t1024).bind fun t1027 => (if t1027 = true then ((laws_markIntS.f k t1010 1).bind fun bt1028 => ((laws_markIntS.f k t1013 bt1028.1).bind fun bt1030 => (if bt1030.1 < 0 then (laws_FnExactPostOr.j0 k l0 l1 t1007 t1016 true) else ((laws_eqIntS.f k t1016 t1007).bind fun t1032 => (laws_FnExactPostOr.j0 k l0 l1 t1007 t1016 (!t1032)))))) else (none)))) else (none)))) else (none)))))))) = some r := H
   have A5 := am_ A50
   clear A50
   replace H := Option.bind_eq_some_iff.mp H
   obtain ⟨t1004, A60, H⟩ := H
   replace H : ((spec_PostOr.f k t1001 t1004).bind fun t1007 => ((laws_toIntS.f k l0).bind fun t1010 => ((laws_toIntS.f k l1).bind fun t1013 => ((impl_PostOr.f k t1010 t1013).bind fun t1016 => ((laws_eqIntS.f k t1016 t1007).bind fun t1019 => (if t1019 = true then ((laws_toIntS.f k l0).bind fun t1020 => ((laws_eqIntS.f k t1010 t1020).bind fun t1023 => (if t1023 = true then ((laws_toIntS.f k l1).bind fun t1024 => ((laws_eqIntS.f k t1013 t1024).bind fun t1027 => (if t1027 = true then ((laws_markIntS.f k t1010 1).bind fun bt1028 => ((laws_markIntS.f k t1013 bt1028.1).bind fun bt1030 => (if bt1030.1 < 0 then (laws_FnExactPostOr.j0 k l0 l1 t1007 t1016 true) else ((laws_eqIntS.f k t1016 t1007).bind fun t1032 => (laws_FnExactPostOr.j0 k l0 l1 t1007 t1016 (!t1032)))))) else (none)))) else (none)))) else (none))))))) = some r := H
   have A6 := am_ A60
   clear A60
   replace H := Option.bind_eq_some_iff.mp H
   obtain ⟨t1007, A70, H⟩ := H
   replace H : ((laws_toIntS.f k l0).bind fun t1010 => ((laws_toIntS.f k l1).bind fun t1013 => ((impl_PostOr.f k t1010 t1013).bind fun t1016 => ((laws_eqIntS.f k t1016 t1007).bind fun t1019 => (if t1019 = true then ((laws_toIntS.f k l0).bind fun t1020 => ((laws_eqIntS.f k t1010 t1020).bind fun t1023 => (if t1023 = true then ((laws_toIntS.f k l1).bind fun t1024 => ((laws_eqIntS.f k t1013 t1024).bind fun t1027 => (if t1027 = true then ((laws_markIntS.f k t1010 1).bind fun bt1028 => ((laws_markIntS.f k t1013 bt1028.1).bind fun bt1030 => (if bt1030.1 < 0 then (laws_FnExactPostOr.j0 k l0 l1 t1007 t1016 true) else ((laws_eqIntS.f k t1016 t1007).bind fun t1032 => (laws_FnExactPostOr.j0 k l0 l1 t1007 t1016 (!t1032)))))) else (none)))) else (none)))) else (none)))))) = some r := H
   have A7 := am_ A70
   clear A70
   replace H := Option.bind_eq_some_iff.mp H
   obtain ⟨t1010, A80, H⟩ := H
   replace H : ((laws_toIntS.f k l1).bind fun t1013 => ((impl_PostOr.f k t1010 t1013).bind fun t1016 => ((laws_eqIntS.f k t1016 t1007).bind fun t1019 => (if t1019 = true then ((laws_toIntS.f k l0).bind fun t1020 => ((laws_eqIntS.f k t1010 t1020).bind fun t1023 => (if t1023 = true then ((laws_toIntS.f k l1).bind fun t1024 => ((laws_eqIntS.f k t1013 t1024).bind fun t1027 => (if t1027 = true then ((laws_markIntS.f k t1010 1).bind fun bt1028 => ((laws_markIntS.f k t1013 bt1028.1).bind fun bt1030 => (if bt1030.1 < 0 then (laws_FnExactPostOr.j0 k l0 l1 t1007 t1016 true) else ((laws_eqIntS.f k t1016 t1007).bind fun t1032 => (laws_FnExactPostOr.j0 k l0 l1 t1007 t1016 (!t1032)))))) else (none)))) else (none)))) else (none))))) = some r := H
   have A8 := am_ A80
   clear A80
   replace H := Option.bind_eq_some_iff.mp H
   obtain ⟨t1013, A90, H⟩ := H
   replace H : ((impl_PostOr.f k t1010 t1013).bind fun t1016 => ((laws_eqIntS.f k t1016 t1007).bind fun t1019 => (if t1019 = true then ((laws_toIntS.f k l0).bind fun t1020 => ((laws_eqIntS.f k t1010 t1020).bind fun t1023 => (if t1023 = true then ((laws_toIntS.f k l1).bind fun t1024 => ((laws_eqIntS.f k t1013 t1024).bind fun t1027 => (if t1027 = true then ((laws_markIntS.f k t1010 1).bind fun bt1028 => ((laws_markIntS.f k t1013 bt1028.1).bind fun bt1030 => (if bt1030.1 < 0 then (laws_FnExactPostOr.j0 k l0 l1 t1007 t1016 true) else ((laws_eqIntS.f k t1016 t1007).bind fun t1032 => (laws_FnExactPostOr.j0 k l0 l1 t1007 t1016 (!t1032)))))) else (none)))) else (none)))) else (none)))) = some r := H
   have A9 := am_ A90
   clear A90
   replace H := Option.bind_eq_some_iff.mp H
   obtain ⟨t1016, A100, H⟩ := H
   replace H : ((laws_eqIntS.f k t1016 t1007).bind fun t1019 => (if t1019 = true then ((laws_toIntS.f k l0).bind fun t1020 => ((laws_eqIntS.f k t1010 t1020).bind fun t1023 => (if t1023 = true then ((laws_toIntS.f k l1).bind fun t1024 => ((laws_eqIntS.f k t1013 t1024).bind fun t1027 => (if t1027 = true then ((laws_markIntS.f k t1010 1).bind fun bt1028 => ((laws_markIntS.f k t1013 bt1028.1).bind fun bt1030 => (if bt1030.1 < 0 then (laws_FnExactPostOr.j0 k l0 l1 t1007 t1016 true) else ((laws_eqIntS.f k t1016 t1007).bind fun t1032 => (laws_FnExactPostOr.j0 k l0 l1 t1007 t1016 (!t1032)))))) else (none)))) else (none)))) else (none))) = some r := H
   have A10 := am_ A100
   clear A100
   replace H := Option.bind_eq_some_iff.mp H
   obtain ⟨t1019, A110, H⟩ := H
   replace H : (if t1019 = true then ((laws_toIntS.f k l0).bind fun t1020 => ((laws_eqIntS.f k t1010 t1020).bind fun t1023 => (if t1023 = true then ((laws_toIntS.f k l1).bind fun t1024 => ((laws_eqIntS.f k t1013 t1024).bind fun t1027 => (if t1027 = true then ((laws_markIntS.f k t1010 1).bind fun bt1028 => ((laws_markIntS.f k t1013 bt1028.1).bind fun bt1030 => (if bt1030.1 < 0 then (laws_FnExactPostOr.j0 k l0 l1 t1007 t1016 true) else ((laws_eqIntS.f k t1016 t1007).bind fun t1032 => (laws_FnExactPostOr.j0 k l0 l1 t1007 t1016 (!t1032)))))) else (none)))) else (none)))) else (none)) = some r := H
   have A11 := am_ A110
   clear A110
   by_cases c12 : t1019 = true
   ·subst c12
    have H1 : ((laws_toIntS.f k l0).bind fun t1020 => ((laws_eqIntS.f k t1010 t1020).bind fun t1023 => (if t1023 = true then ((laws_toIntS.f k l1).bind fun t1024 => ((laws_eqIntS.f k t1013 t1024).bind fun t1027 => (if t1027 = true then ((laws_markIntS.f k t1010 1).bind fun bt1028 => ((laws_markIntS.f k t1013 bt1028.1).bind fun bt1030 => (if bt1030.1 < 0 then (laws_FnExactPostOr.j0 k l0 l1 t1007 t1016 true) else ((laws_eqIntS.f k t1016 t1007).bind fun t1032 => (laws_FnExactPostOr.j0 k l0 l1 t1007 t1016 (!t1032)))))) else (none)))) else (none)))) = some r := by rw [if_pos rfl] at H; exact H
    clear H
    have H := H1
    clear H1
    replace H := Option.bind_eq_some_iff.mp H
    obtain ⟨t1020, A130, H⟩ := H
    replace H : ((laws_eqIntS.f k t1010 t1020).bind fun t1023 => (if t1023 = true then ((laws_toIntS.f k l1).bind fun t1024 => ((laws_eqIntS.f k t1013 t1024).bind fun t1027 => (if t1027 = true then ((laws_markIntS.f k t1010 1).bind fun bt1028 => ((laws_markIntS.f k t1013 bt1028.1).bind fun bt1030 => (if bt1030.1 < 0 then (laws_FnExactPostOr.j0 k l0 l1 t1007 t1016 true) else ((laws_eqIntS.f k t1016 t1007).bind fun t1032 => (laws_FnExactPostOr.j0 k l0 l1 t1007 t1016 (!t1032)))))) else (none)))) else (none))) = some r := H
    have A13 := am_ A130
    clear A130
    replace H := Option.bind_eq_some_iff.mp H
    obtain ⟨t1023, A140, H⟩ := H
    replace H : (if t1023 = true then ((laws_toIntS.f k l1).bind fun t1024 => ((laws_eqIntS.f k t1013 t1024).bind fun t1027 => (if t1027 = true then ((laws_markIntS.f k t1010 1).bind fun bt1028 => ((laws_markIntS.f k t1013 bt1028.1).bind fun bt1030 => (if bt1030.1 < 0 then (laws_FnExactPostOr.j0 k l0 l1 t1007 t1016 true) else ((laws_eqIntS.f k t1016 t1007).bind fun t1032 => (laws_FnExactPostOr.j0 k l0 l1 t1007 t1016 (!t1032)))))) else (none)))) else (none)) = some r := H
    have A14 := am_ A140
    clear A140
    by_cases c15 : t1023 = true
    ·subst c15
     have H1 : ((laws_toIntS.f k l1).bind fun t1024 => ((laws_eqIntS.f k t1013 t1024).bind fun t1027 => (if t1027 = true then ((laws_markIntS.f k t1010 1).bind fun bt1028 => ((laws_markIntS.f k t1013 bt1028.1).bind fun bt1030 => (if bt1030.1 < 0 then (laws_FnExactPostOr.j0 k l0 l1 t1007 t1016 true) else ((laws_eqIntS.f k t1016 t1007).bind fun t1032 => (laws_FnExactPostOr.j0 k l0 l1 t1007 t1016 (!t1032)))))) else (none)))) = some r := by rw [if_pos rfl] at H; exact H
     clear H
     have H := H1
     clear H1
     replace H := Option.bind_eq_some_iff.mp H
     obtain ⟨t1024, A160, H⟩ := H
     replace H : ((laws_eqIntS.f k t1013 t1024).bind fun t1027 => (if t1027 = true then ((laws_markIntS.f k t1010 1).bind fun bt1028 => ((laws_markIntS.f k t1013 bt1028.1).bind fun bt1030 => (if bt1030.1 < 0 then (laws_FnExactPostOr.j0 k l0 l1 t1007 t1016 true) else ((laws_eqIntS.f k t1016 t1007).bind fun t1032 => (laws_FnExactPostOr.j0 k l0 l1 t1007 t1016 (!t1032)))))) else (none))) = some r := H
     have A16 := am_ A160
     clear A160
     replace H := Option.bind_eq_some_iff.mp H
     obtain ⟨t1027, A170, H⟩ := H
     replace H : (if t1027 = true then ((laws_markIntS.f k t1010 1).bind fun bt1028 => ((laws_markIntS.f k t1013 bt1028.1).bind fun bt1030 => (if bt1030.1 < 0 then (laws_FnExactPostOr.j0 k l0 l1 t1007 t1016 true) else ((laws_eqIntS.f k t1016 t1007).bind fun t1032 => (laws_FnExactPostOr.j0 k l0 l1 t1007 t1016 (!t1032)))))) else (none)) = some r := H
     have A17 := am_ A170
     clear A170
     by_cases c18 : t1027 = true
     ·subst c18
      have H1 : ((laws_markIntS.f k t1010 1).bind fun bt1028 => ((laws_markIntS.f k t1013 bt1028.1).bind fun bt1030 => (if bt1030.1 < 0 then (laws_FnExactPostOr.j0 k l0 l1 t1007 t1016 true) else ((laws_eqIntS.f k t1016 t1007).bind fun t1032 => (laws_FnExactPostOr.j0 k l0 l1 t1007 t1016 (!t1032)))))) = some r := by rw [if_pos rfl] at H; exact H
      clear H
      have H := H1
      clear H1
      replace H := Option.bind_eq_some_iff.mp H
      obtain ⟨⟨t1028, t1029⟩, A190, H⟩ := H
      replace H : ((laws_markIntS.f k t1013 t1028).bind fun bt1030 => (if bt1030.1 < 0 then (laws_FnExactPostOr.j0 k l0 l1 t1007 t1016 true) else ((laws_eqIntS.f k t1016 t1007).bind fun t1032 => (laws_FnExactPostOr.j0 k l0 l1 t1007 t1016 (!t1032))))) = some r := H
      have A19 := am_ A190
      clear A190
      replace H := Option.bind_eq_some_iff.mp H
      obtain ⟨⟨t1030, t1031⟩, A200, H⟩ := H
      replace H : (if t1030 < 0 then (laws_FnExactPostOr.j0 k l0 l1 t1007 t1016 true) else ((laws_eqIntS.f k t1016 t1007).bind fun t1032 => (laws_FnExactPostOr.j0 k l0 l1 t1007 t1016 (!t1032)))) = some r := H
      have A20 := am_ A200
      clear A200
      have HC21 := am_ H
      clear H
      go_enter Try.func12, Try.ntmps12
      go_upto_region 18 with (first | ((with_reducible refine gate_callee (f := 47) rfl ?_); refine goesL_ (some 20) rfl rfl Try.func47 (by kernel_rfl) rfl #[.slice A0 l0.length c0] rfl ag_ ?_; (with_reducible refine (laws_toIntS.calls k _ _ l0 t1001 _ ?side1 ?side2 A5.out).mono ?_); (case side1 => repeat (first | exact HR0.out | (with_reducible refine Kd.C_alloc ?_ _) | (with_reducible refine Kd.C_drewN ?_ _) | (with_reducible refine Kd.C_drew ?_))); (case side2 => exact HC0.out); rintro e w22 ⟨v1002, rfl, ho0, hb⟩; refine ⟨_, rfl, ?_⟩; have n0_ := am_ (Kd.R_lower ho0 (below_size bl_)); have n1_ := am_ (below_step bl_ hb); clear HB; have HO1003 := n0_; have HB := n1_; clear n0_ n1_; (try clear hb); (try clear hb2); (try clear hk); (try clear hi); (try clear ho0)) | ((with_reducible refine gate_callee (f := 47) rfl ?_); refine goesL_ (some 22) rfl rfl Try.func47 (by kernel_rfl) rfl #[.slice A1 l1.length c1] rfl ag_ ?_; (with_reducible refine (laws_toIntS.calls k _ _ l1 t1004 _ ?side1 ?side2 A6.out).mono ?_); (case side1 => exact cc_ (Kd.C_below HR1.out HB.out)); (case side2 => exact HC1.out); rintro e w23 ⟨v1005, rfl, ho0, hb⟩; refine ⟨_, rfl, ?_⟩; have n0_ := am_ (Kd.R_elder' (ro_ HO1003) (Kd.R_base ho0) hb); have n1_ := am_ (Kd.R_lower (Kd.R_new' ho0 (Kd.R_lt (ro_ HO1003))) (below_size bl_)); have n2_ := am_ (below_step bl_ hb); clear HO1003; clear HB; have HO1003 := n0_; have HO1006 := n1_; have HB := n2_; clear n0_ n1_ n2_; (try clear hb); (try clear hb2); (try clear hk); (try clear hi); (try clear ho0); obtain ⟨Ao24, co24, eo24⟩ := Kd.R_slice HO1003.out; subst eo24; obtain ⟨Ao25, co25, eo25⟩ := Kd.R_slice HO1006.out; subst eo25) | ((with_reducible refine gate_callee (f := 54) rfl ?_); refine goesL_ (some 23) rfl rfl Try.func54 (by kernel_rfl) rfl #[.slice Ao24 t1001.length co24, .slice Ao25 t1004.length co25] rfl ag_ ?_; (with_reducible refine (spec_PostOr.calls k _ _ t1001 _ _ t1004 t1007 _ ?side1 ?side2 ?side3 ?side4 A7.out).mono ?_); (case side1 => exact cc_ (Kd.R_reads' HO1003.out).2.2); (case side2 => exact (Kd.R_reads' HO1003.out).2.1); (case side3 => exact cc_ (Kd.R_reads' HO1006.out).2.2); (case side4 => exact (Kd.R_reads' HO1006.out).2.1); rintro e w26 ⟨v1008, rfl, ho0, hb⟩; refine ⟨_, rfl, ?_⟩; have n0_ := am_ (Kd.R_elder' (ro_ HO1003) (Kd.R_base ho0) hb); have n1_ := am_ (Kd.R_elder' (ro_ HO1006) (Kd.R_base ho0) hb); have n2_ := am_ (Kd.R_lower (Kd.R_new' (Kd.R_new' ho0 (Kd.R_lt (ro_ HO1003))) (Kd.R_lt (ro_ HO1006))) (below_size bl_)); have n3_ := am_ (below_step bl_ hb); clear HO1003; clear HO1006; clear HB; have HO1003 := n0_; have HO1006 := n1_; have HO1009 := n2_; have HB := n3_; clear n0_ n1_ n2_ n3_; (try clear hb); (try clear hb2); (try clear hk); (try clear hi); (try clear ho0)) | ((with_reducible refine gate_callee (f := 47) rfl ?_); refine goesL_ (some 25) rfl rfl Try.func47 (by kernel_rfl) rfl #[.slice A0 l0.length c0] rfl ag_ ?_; (with_reducible refine (laws_toIntS.calls k _ _ l0 t1010 _ ?side1 ?side2 A8.out).mono ?_); (case side1 => exact cc_ (Kd.C_below HR0.out HB.out)); (case side2 => exact HC0.out); rintro e w27 ⟨v1011, rfl, ho0, hb⟩; refine ⟨_, rfl, ?_⟩; have n0_ := am_ (Kd.R_elder' (ro_ HO1003) (Kd.R_base ho0) hb); have n1_ := am_ (Kd.R_elder' (ro_ HO1006) (Kd.R_base ho0) hb); have n2_ := am_ (Kd.R_elder' (ro_ HO1009) (Kd.R_base ho0) hb); have n3_ := am_ (Kd.R_lower (Kd.R_new' (Kd.R_new' (Kd.R_new' ho0 (Kd.R_lt (ro_ HO1003))) (Kd.R_lt (ro_ HO1006))) (Kd.R_lt (ro_ HO1009))) (below_size bl_)); have n4_ := am_ (below_step bl_ hb); clear HO1003; clear HO1006; clear HO1009; clear HB; have HO1003 := n0_; have HO1006 := n1_; have HO1009 := n2_; have HO1012 := n3_; have HB := n4_; clear n0_ n1_ n2_ n3_ n4_; (try clear hb); (try clear hb2); (try clear hk); (try clear hi); (try clear ho0)) | ((with_reducible refine gate_callee (f := 47) rfl ?_); refine goesL_ (some 27) rfl rfl Try.func47 (by kernel_rfl) rfl #[.slice A1 l1.length c1] rfl ag_ ?_; (with_reducible refine (laws_toIntS.calls k _ _ l1 t1013 _ ?side1 ?side2 A9.out).mono ?_); (case side1 => exact cc_ (Kd.C_below HR1.out HB.out)); (case side2 => exact HC1.out); rintro e w28 ⟨v1014, rfl, ho0, hb⟩; refine ⟨_, rfl, ?_⟩; have n0_ := am_ (Kd.R_elder' (ro_ HO1003) (Kd.R_base ho0) hb); have n1_ := am_ (Kd.R_elder' (ro_ HO1006) (Kd.R_base ho0) hb); have n2_ := am_ (Kd.R_elder' (ro_ HO1009) (Kd.R_base ho0) hb); have n3_ := am_ (Kd.R_elder' (ro_ HO1012) (Kd.R_base ho0) hb); have n4_ := am_ (Kd.R_lower (Kd.R_new' (Kd.R_new' (Kd.R_new' (Kd.R_new' ho0 (Kd.R_lt (ro_ HO1003))) (Kd.R_lt (ro_ HO1006))) (Kd.R_lt (ro_ HO1009))) (Kd.R_lt (ro_ HO1012))) (below_size bl_)); have n5_ := am_ (below_step bl_ hb); clear HO1003; clear HO1006; clear HO1009; clear HO1012; clear HB; have HO1003 := n0_; have HO1006 := n1_; have HO1009 := n2_; have HO1012 := n3_; have HO1015 := n4_; have HB := n5_; clear n0_ n1_ n2_ n3_ n4_ n5_; (try clear hb); (try clear hb2); (try clear hk); (try clear hi); (try clear ho0); obtain ⟨Ao29, co29, eo29⟩ := Kd.R_slice HO1012.out; subst eo29; obtain ⟨Ao30, co30, eo30⟩ := Kd.R_slice HO1015.out; subst eo30) | ((with_reducible refine gate_callee (f := 55) rfl ?_); refine goesL_ (some 30) rfl rfl Try.func55 (by kernel_rfl) rfl #[.slice Ao29 t1010.length co29, .slice Ao30 t1013.length co30] rfl ag_ ?_; (with_reducible refine (impl_PostOr.calls k _ _ t1010 _ _ t1013 t1016 _ ?side1 ?side2 ?side3 ?side4 A10.out).mono ?_); (case side1 => exact cc_ (Kd.R_reads' HO1012.out).2.2); (case side2 => exact (Kd.R_reads' HO1012.out).2.1); (case side3 => exact cc_ (Kd.R_reads' HO1015.out).2.2); (case side4 => exact (Kd.R_reads' HO1015.out).2.1); rintro e w31 ⟨v1017, rfl, ho0, hb⟩; refine ⟨_, rfl, ?_⟩; have n0_ := am_ (Kd.R_elder' (ro_ HO1003) (Kd.R_base ho0) hb); have n1_ := am_ (Kd.R_elder' (ro_ HO1006) (Kd.R_base ho0) hb); have n2_ := am_ (Kd.R_elder' (ro_ HO1009) (Kd.R_base ho0) hb); have n3_ := am_ (Kd.R_elder' (ro_ HO1012) (Kd.R_base ho0) hb); have n4_ := am_ (Kd.R_elder' (ro_ HO1015) (Kd.R_base ho0) hb); have n5_ := am_ (Kd.R_lower (Kd.R_new' (Kd.R_new' (Kd.R_new' (Kd.R_new' (Kd.R_new' ho0 (Kd.R_lt (ro_ HO1003))) (Kd.R_lt (ro_ HO1006))) (Kd.R_lt (ro_ HO1009))) (Kd.R_lt (ro_ HO1012))) (Kd.R_lt (ro_ HO1015))) (below_size bl_)); have n6_ := am_ (below_step bl_ hb); clear HO1003; clear HO1006; clear HO1009; clear HO1012; clear HO1015; clear HB; have HO1003 := n0_; have HO1006 := n1_; have HO1009 := n2_; have HO1012 := n3_; have HO1015 := n4_; have HO1018 := n5_; have HB := n6_; clear n0_ n1_ n2_ n3_ n4_ n5_ n6_; (try clear hb); (try clear hb2); (try clear hk); (try clear hi); (try clear ho0); obtain ⟨Ao32, co32, eo32⟩ := Kd.R_slice HO1018.out; subst eo32; obtain ⟨Ao33, co33, eo33⟩ := Kd.R_slice HO1009.out; subst eo33) | ((with_reducible refine gate_callee (f := 49) rfl ?_); refine goesL_ (some 33) rfl rfl Try.func49 (by kernel_rfl) rfl #[.slice Ao32 t1016.length co32, .slice Ao33 t1007.length co33] rfl ag_ ?_; (with_reducible refine (laws_eqIntS.calls k _ _ t1016 _ _ t1007 true _ ?side1 ?side2 ?side3 ?side4 A11.out).mono ?_); (case side1 => exact cc_ (Kd.R_reads' HO1018.out).2.2); (case side2 => exact (Kd.R_reads' HO1018.out).2.1); (case side3 => exact cc_ (Kd.R_reads' HO1009.out).2.2); (case side4 => exact (Kd.R_reads' HO1009.out).2.1); rintro e w' ⟨rfl, ⟨nd, rfl⟩⟩; refine ⟨_, rfl, ?_⟩) | ((with_reducible refine gate_callee (f := 47) rfl ?_); refine goesL_ (some 37) rfl rfl Try.func47 (by kernel_rfl) rfl #[.slice A0 l0.length c0] rfl ag_ ?_; (with_reducible refine (laws_toIntS.calls k _ _ l0 t1020 _ ?side1 ?side2 A13.out).mono ?_); (case side1 => exact cc_ (Kd.C_below HR0.out bl_)); (case side2 => exact HC0.out); rintro e w34 ⟨v1021, rfl, ho0, hb⟩; refine ⟨_, rfl, ?_⟩; have n0_ := am_ (Kd.R_elder' (ro_ HO1003) (Kd.R_base ho0) hb); have n1_ := am_ (Kd.R_elder' (ro_ HO1006) (Kd.R_base ho0) hb); have n2_ := am_ (Kd.R_elder' (ro_ HO1009) (Kd.R_base ho0) hb); have n3_ := am_ (Kd.R_elder' (ro_ HO1012) (Kd.R_base ho0) hb); have n4_ := am_ (Kd.R_elder' (ro_ HO1015) (Kd.R_base ho0) hb); have n5_ := am_ (Kd.R_elder' (ro_ HO1018) (Kd.R_base ho0) hb); have n6_ := am_ (Kd.R_lower (Kd.R_new' (Kd.R_new' (Kd.R_new' (Kd.R_new' (Kd.R_new' (Kd.R_new' ho0 (Kd.R_lt (ro_ HO1003))) (Kd.R_lt (ro_ HO1006))) (Kd.R_lt (ro_ HO1009))) (Kd.R_lt (ro_ HO1012))) (Kd.R_lt (ro_ HO1015))) (Kd.R_lt (ro_ HO1018))) (below_size bl_)); have n7_ := am_ (below_step bl_ hb); clear HO1003; clear HO1006; clear HO1009; clear HO1012; clear HO1015; clear HO1018; clear HB; have HO1003 := n0_; have HO1006 := n1_; have HO1009 := n2_; have HO1012 := n3_; have HO1015 := n4_; have HO1018 := n5_; have HO1022 := n6_; have HB := n7_; clear n0_ n1_ n2_ n3_ n4_ n5_ n6_ n7_; (try clear hb); (try clear hb2); (try clear hk); (try clear hi); (try clear ho0); obtain ⟨Ao35, co35, eo35⟩ := Kd.R_slice HO1022.out; subst eo35) | ((with_reducible refine gate_callee (f := 49) rfl ?_); refine goesL_ (some 38) rfl rfl Try.func49 (by kernel_rfl) rfl #[.slice Ao29 t1010.length co29, .slice Ao35 t1020.length co35] rfl ag_ ?_; (with_reducible refine (laws_eqIntS.calls k _ _ t1010 _ _ t1020 true _ ?side1 ?side2 ?side3 ?side4 A14.out).mono ?_); (case side1 => exact cc_ (Kd.R_reads' HO1012.out).2.2); (case side2 => exact (Kd.R_reads' HO1012.out).2.1); (case side3 => exact cc_ (Kd.R_reads' HO1022.out).2.2); (case side4 => exact (Kd.R_reads' HO1022.out).2.1); rintro e w' ⟨rfl, ⟨nd, rfl⟩⟩; refine ⟨_, rfl, ?_⟩) | ((with_reducible refine gate_callee (f := 47) rfl ?_); refine goesL_ (some 42) rfl rfl Try.func47 (by kernel_rfl) rfl #[.slice A1 l1.length c1] rfl ag_ ?_; (with_reducible refine (laws_toIntS.calls k _ _ l1 t1024 _ ?side1 ?side2 A16.out).mono ?_); (case side1 => exact cc_ (Kd.C_below HR1.out bl_)); (case side2 => exact HC1.out); rintro e w36 ⟨v1025, rfl, ho0, hb⟩; refine ⟨_, rfl, ?_⟩; have n0_ := am_ (Kd.R_elder' (ro_ HO1003) (Kd.R_base ho0) hb); have n1_ := am_ (Kd.R_elder' (ro_ HO1006) (Kd.R_base ho0) hb); have n2_ := am_ (Kd.R_elder' (ro_ HO1009) (Kd.R_base ho0) hb); have n3_ := am_ (Kd.R_elder' (ro_ HO1012) (Kd.R_base ho0) hb); have n4_ := am_ (Kd.R_elder' (ro_ HO1015) (Kd.R_base ho0) hb); have n5_ := am_ (Kd.R_elder' (ro_ HO1018) (Kd.R_base ho0) hb); have n6_ := am_ (Kd.R_elder' (ro_ HO1022) (Kd.R_base ho0) hb); have n7_ := am_ (Kd.R_lower (Kd.R_new' (Kd.R_new' (Kd.R_new' (Kd.R_new' (Kd.R_new' (Kd.R_new' (Kd.R_new' ho0 (Kd.R_lt (ro_ HO1003))) (Kd.R_lt (ro_ HO1006))) (Kd.R_lt (ro_ HO1009))) (Kd.R_lt (ro_ HO1012))) (Kd.R_lt (ro_ HO1015))) (Kd.R_lt (ro_ HO1018))) (Kd.R_lt (ro_ HO1022))) (below_size bl_)); have n8_ := am_ (below_step bl_ hb); clear HO1003; clear HO1006; clear HO1009; clear HO1012; clear HO1015; clear HO1018; clear HO1022; clear HB; have HO1003 := n0_; have HO1006 := n1_; have HO1009 := n2_; have HO1012 := n3_; have HO1015 := n4_; have HO1018 := n5_; have HO1022 := n6_; have HO1026 := n7_; have HB := n8_; clear n0_ n1_ n2_ n3_ n4_ n5_ n6_ n7_ n8_; (try clear hb); (try clear hb2); (try clear hk); (try clear hi); (try clear ho0); obtain ⟨Ao37, co37, eo37⟩ := Kd.R_slice HO1026.out; subst eo37) | ((with_reducible refine gate_callee (f := 49) rfl ?_); refine goesL_ (some 43) rfl rfl Try.func49 (by kernel_rfl) rfl #[.slice Ao30 t1013.length co30, .slice Ao37 t1024.length co37] rfl ag_ ?_; (with_reducible refine (laws_eqIntS.calls k _ _ t1013 _ _ t1024 true _ ?side1 ?side2 ?side3 ?side4 A17.out).mono ?_); (case side1 => exact cc_ (Kd.R_reads' HO1015.out).2.2); (case side2 => exact (Kd.R_reads' HO1015.out).2.1); (case side3 => exact cc_ (Kd.R_reads' HO1026.out).2.2); (case side4 => exact (Kd.R_reads' HO1026.out).2.1); rintro e w' ⟨rfl, ⟨nd, rfl⟩⟩; refine ⟨_, rfl, ?_⟩) | ((with_reducible refine gate_callee (f := 50) rfl ?_); refine goesL_ (some 47) rfl rfl Try.func50 (by kernel_rfl) rfl #[.slice Ao29 t1010.length co29, .int .i64 1] rfl ag_ ?_; (with_reducible refine (laws_markIntS.calls k (fun k_ => some k_ = (.slice Ao29 t1010.length co29 : Value).ownBlock) (.slice Ao29 t1010.length co29) t1010 1 t1028 t1029 w _ ?side1 ?side2 A19.out).mono ?_); (case side1 => repeat (first | (with_reducible first | exact HB.out | apply below_alloc | apply pw_below_drewN | apply below_drew1) | exact HB.out)); (case side2 => exact Kd.R_tight rfl HO1012.out); rintro e w38 ⟨rfl, hy0, hb, hkp⟩; refine ⟨_, rfl, ?_⟩; have n0_ := am_ (Kd.R_mono (ok' := fun k_ => some k_ ≠ (.slice Ao25 t1004.length co25 : Value).ownBlock ∧ some k_ ≠ (.slice Ao33 t1007.length co33 : Value).ownBlock ∧ some k_ ≠ (.slice Ao29 t1010.length co29 : Value).ownBlock ∧ some k_ ≠ (.slice Ao30 t1013.length co30 : Value).ownBlock ∧ some k_ ≠ (.slice Ao32 t1016.length co32 : Value).ownBlock ∧ some k_ ≠ (.slice Ao35 t1020.length co35 : Value).ownBlock ∧ some k_ ≠ (.slice Ao37 t1024.length co37 : Value).ownBlock) (Kd.R_keptB (HO1003.out) hkp (fun k_ hk_ hs_ => (hk_.1.1.1.1.2) hs_)) (fun k_ hk_ => ⟨hk_.1.1.1.1.1.1.1.2, hk_.1.1.1.1.1.1.2, hk_.1.1.1.1.1.2, hk_.1.1.1.1.2, hk_.1.1.1.2, hk_.1.1.2, hk_.1.2⟩)); have n1_ := am_ (Kd.R_mono (ok' := fun k_ => some k_ ≠ (.slice Ao24 t1001.length co24 : Value).ownBlock ∧ some k_ ≠ (.slice Ao33 t1007.length co33 : Value).ownBlock ∧ some k_ ≠ (.slice Ao29 t1010.length co29 : Value).ownBlock ∧ some k_ ≠ (.slice Ao30 t1013.length co30 : Value).ownBlock ∧ some k_ ≠ (.slice Ao32 t1016.length co32 : Value).ownBlock ∧ some k_ ≠ (.slice Ao35 t1020.length co35 : Value).ownBlock ∧ some k_ ≠ (.slice Ao37 t1024.length co37 : Value).ownBlock) (Kd.R_keptB (HO1006.out) hkp (fun k_ hk_ hs_ => (hk_.1.1.1.1.2) hs_)) (fun k_ hk_ => ⟨hk_.1.1.1.1.1.1.1.2, hk_.1.1.1.1.1.1.2, hk_.1.1.1.1.1.2, hk_.1.1.1.1.2, hk_.1.1.1.2, hk_.1.1.2, hk_.1.2⟩)); have n2_ := am_ (Kd.R_mono (ok' := fun k_ => some k_ ≠ (.slice Ao24 t1001.length co24 : Value).ownBlock ∧ some k_ ≠ (.slice Ao25 t1004.length co25 : Value).ownBlock ∧ some k_ ≠ (.slice Ao29 t1010.length co29 : Value).ownBlock ∧ some k_ ≠ (.slice Ao30 t1013.length co30 : Value).ownBlock ∧ some k_ ≠ (.slice Ao32 t1016.length co32 : Value).ownBlock ∧ some k_ ≠ (.slice Ao35 t1020.length co35 : Value).ownBlock ∧ some k_ ≠ (.slice Ao37 t1024.length co37 : Value).ownBlock) (Kd.R_keptB (HO1009.out) hkp (fun k_ hk_ hs_ => (hk_.1.1.1.1.2) hs_)) (fun k_ hk_ => ⟨hk_.1.1.1.1.1.1.1.2, hk_.1.1.1.1.1.1.2, hk_.1.1.1.1.1.2, hk_.1.1.1.1.2, hk_.1.1.1.2, hk_.1.1.2, hk_.1.2⟩)); have n3_ := am_ (Kd.R_reok rfl hy0 (fun k_ e_ => HO1012.out.1 k_ e_)); have n4_ := am_ (Kd.R_mono (ok' := fun k_ => some k_ ≠ (.slice Ao24 t1001.length co24 : Value).ownBlock ∧ some k_ ≠ (.slice Ao25 t1004.length co25 : Value).ownBlock ∧ some k_ ≠ (.slice Ao33 t1007.length co33 : Value).ownBlock ∧ some k_ ≠ (.slice Ao29 t1010.length co29 : Value).ownBlock ∧ some k_ ≠ (.slice Ao32 t1016.length co32 : Value).ownBlock ∧ some k_ ≠ (.slice Ao35 t1020.length co35 : Value).ownBlock ∧ some k_ ≠ (.slice Ao37 t1024.length co37 : Value).ownBlock) (Kd.R_keptB (HO1015.out) hkp (fun k_ hk_ hs_ => (hk_.1.1.1.2) hs_)) (fun k_ hk_ => ⟨hk_.1.1.1.1.1.1.1.2, hk_.1.1.1.1.1.1.2, hk_.1.1.1.1.1.2, hk_.1.1.1.1.2, hk_.1.1.1.2, hk_.1.1.2, hk_.1.2⟩)); have n5_ := am_ (Kd.R_mono (ok' := fun k_ => some k_ ≠ (.slice Ao24 t1001.length co24 : Value).ownBlock ∧ some k_ ≠ (.slice Ao25 t1004.length co25 : Value).ownBlock ∧ some k_ ≠ (.slice Ao33 t1007.length co33 : Value).ownBlock ∧ some k_ ≠ (.slice Ao29 t1010.length co29 : Value).ownBlock ∧ some k_ ≠ (.slice Ao30 t1013.length co30 : Value).ownBlock ∧ some k_ ≠ (.slice Ao35 t1020.length co35 : Value).ownBlock ∧ some k_ ≠ (.slice Ao37 t1024.length co37 : Value).ownBlock) (Kd.R_keptB (HO1018.out) hkp (fun k_ hk_ hs_ => (hk_.1.1.1.2) hs_)) (fun k_ hk_ => ⟨hk_.1.1.1.1.1.1.1.2, hk_.1.1.1.1.1.1.2, hk_.1.1.1.1.1.2, hk_.1.1.1.1.2, hk_.1.1.1.2, hk_.1.1.2, hk_.1.2⟩)); have n6_ := am_ (Kd.R_mono (ok' := fun k_ => some k_ ≠ (.slice Ao24 t1001.length co24 : Value).ownBlock ∧ some k_ ≠ (.slice Ao25 t1004.length co25 : Value).ownBlock ∧ some k_ ≠ (.slice Ao33 t1007.length co33 : Value).ownBlock ∧ some k_ ≠ (.slice Ao29 t1010.length co29 : Value).ownBlock ∧ some k_ ≠ (.slice Ao30 t1013.length co30 : Value).ownBlock ∧ some k_ ≠ (.slice Ao32 t1016.length co32 : Value).ownBlock ∧ some k_ ≠ (.slice Ao37 t1024.length co37 : Value).ownBlock) (Kd.R_keptB (HO1022.out) hkp (fun k_ hk_ hs_ => (hk_.1.1.1.2) hs_)) (fun k_ hk_ => ⟨hk_.1.1.1.1.1.1.1.2, hk_.1.1.1.1.1.1.2, hk_.1.1.1.1.1.2, hk_.1.1.1.1.2, hk_.1.1.1.2, hk_.1.1.2, hk_.1.2⟩)); have n7_ := am_ (Kd.R_mono (ok' := fun k_ => some k_ ≠ (.slice Ao24 t1001.length co24 : Value).ownBlock ∧ some k_ ≠ (.slice Ao25 t1004.length co25 : Value).ownBlock ∧ some k_ ≠ (.slice Ao33 t1007.length co33 : Value).ownBlock ∧ some k_ ≠ (.slice Ao29 t1010.length co29 : Value).ownBlock ∧ some k_ ≠ (.slice Ao30 t1013.length co30 : Value).ownBlock ∧ some k_ ≠ (.slice Ao32 t1016.length co32 : Value).ownBlock ∧ some k_ ≠ (.slice Ao35 t1020.length co35 : Value).ownBlock) (Kd.R_keptB (HO1026.out) hkp (fun k_ hk_ hs_ => (hk_.1.1.1.2) hs_)) (fun k_ hk_ => ⟨hk_.1.1.1.1.1.1.1.2, hk_.1.1.1.1.1.1.2, hk_.1.1.1.1.1.2, hk_.1.1.1.1.2, hk_.1.1.1.2, hk_.1.1.2, hk_.1.2⟩)); have n8_ := am_ (hb); clear HO1003; clear HO1006; clear HO1009; clear HO1012; clear HO1015; clear HO1018; clear HO1022; clear HO1026; clear HB; have HO1003 := n0_; have HO1006 := n1_; have HO1009 := n2_; have HO1012 := n3_; have HO1015 := n4_; have HO1018 := n5_; have HO1022 := n6_; have HO1026 := n7_; have HB := n8_; clear n0_ n1_ n2_ n3_ n4_ n5_ n6_ n7_ n8_; (try clear hb); (try clear hkp); (try clear hy0)) | ((with_reducible refine gate_callee (f := 50) rfl ?_); refine goesL_ (some 50) rfl rfl Try.func50 (by kernel_rfl) rfl #[.slice Ao30 t1013.length co30, .int .i64 t1028] rfl ag_ ?_; (with_reducible refine (laws_markIntS.calls k (fun k_ => some k_ = (.slice Ao30 t1013.length co30 : Value).ownBlock) (.slice Ao30 t1013.length co30) t1013 t1028 t1030 t1031 w _ ?side1 ?side2 A20.out).mono ?_); (case side1 => repeat (first | (with_reducible first | exact HB.out | apply below_alloc | apply pw_below_drewN | apply below_drew1) | exact HB.out)); (case side2 => exact Kd.R_tight rfl HO1015.out); rintro e w39 ⟨rfl, hy0, hb, hkp⟩; refine ⟨_, rfl, ?_⟩; have n0_ := am_ (Kd.R_mono (ok' := fun k_ => some k_ ≠ (.slice Ao25 t1004.length co25 : Value).ownBlock ∧ some k_ ≠ (.slice Ao33 t1007.length co33 : Value).ownBlock ∧ some k_ ≠ (.slice Ao29 t1010.length co29 : Value).ownBlock ∧ some k_ ≠ (.slice Ao30 t1013.length co30 : Value).ownBlock ∧ some k_ ≠ (.slice Ao32 t1016.length co32 : Value).ownBlock ∧ some k_ ≠ (.slice Ao35 t1020.length co35 : Value).ownBlock ∧ some k_ ≠ (.slice Ao37 t1024.length co37 : Value).ownBlock) (Kd.R_keptB (HO1003.out) hkp (fun k_ hk_ hs_ => (hk_.2.2.2.1) hs_)) (fun k_ hk_ => ⟨hk_.1.1, hk_.1.2.1, hk_.1.2.2.1, hk_.1.2.2.2.1, hk_.1.2.2.2.2.1, hk_.1.2.2.2.2.2.1, hk_.1.2.2.2.2.2.2⟩)); have n1_ := am_ (Kd.R_mono (ok' := fun k_ => some k_ ≠ (.slice Ao24 t1001.length co24 : Value).ownBlock ∧ some k_ ≠ (.slice Ao33 t1007.length co33 : Value).ownBlock ∧ some k_ ≠ (.slice Ao29 t1010.length co29 : Value).ownBlock ∧ some k_ ≠ (.slice Ao30 t1013.length co30 : Value).ownBlock ∧ some k_ ≠ (.slice Ao32 t1016.length co32 : Value).ownBlock ∧ some k_ ≠ (.slice Ao35 t1020.length co35 : Value).ownBlock ∧ some k_ ≠ (.slice Ao37 t1024.length co37 : Value).ownBlock) (Kd.R_keptB (HO1006.out) hkp (fun k_ hk_ hs_ => (hk_.2.2.2.1) hs_)) (fun k_ hk_ => ⟨hk_.1.1, hk_.1.2.1, hk_.1.2.2.1, hk_.1.2.2.2.1, hk_.1.2.2.2.2.1, hk_.1.2.2.2.2.2.1, hk_.1.2.2.2.2.2.2⟩)); have n2_ := am_ (Kd.R_mono (ok' := fun k_ => some k_ ≠ (.slice Ao24 t1001.length co24 : Value).ownBlock ∧ some k_ ≠ (.slice Ao25 t1004.length co25 : Value).ownBlock ∧ some k_ ≠ (.slice Ao29 t1010.length co29 : Value).ownBlock ∧ some k_ ≠ (.slice Ao30 t1013.length co30 : Value).ownBlock ∧ some k_ ≠ (.slice Ao32 t1016.length co32 : Value).ownBlock ∧ some k_ ≠ (.slice Ao35 t1020.length co35 : Value).ownBlock ∧ some k_ ≠ (.slice Ao37 t1024.length co37 : Value).ownBlock) (Kd.R_keptB (HO1009.out) hkp (fun k_ hk_ hs_ => (hk_.2.2.2.1) hs_)) (fun k_ hk_ => ⟨hk_.1.1, hk_.1.2.1, hk_.1.2.2.1, hk_.1.2.2.2.1, hk_.1.2.2.2.2.1, hk_.1.2.2.2.2.2.1, hk_.1.2.2.2.2.2.2⟩)); have n3_ := am_ (Kd.R_mono (ok' := fun k_ => some k_ ≠ (.slice Ao24 t1001.length co24 : Value).ownBlock ∧ some k_ ≠ (.slice Ao25 t1004.length co25 : Value).ownBlock ∧ some k_ ≠ (.slice Ao33 t1007.length co33 : Value).ownBlock ∧ some k_ ≠ (.slice Ao30 t1013.length co30 : Value).ownBlock ∧ some k_ ≠ (.slice Ao32 t1016.length co32 : Value).ownBlock ∧ some k_ ≠ (.slice Ao35 t1020.length co35 : Value).ownBlock ∧ some k_ ≠ (.slice Ao37 t1024.length co37 : Value).ownBlock) (Kd.R_keptB (HO1012.out) hkp (fun k_ hk_ hs_ => (hk_.1.1.1.2) hs_)) (fun k_ hk_ => ⟨hk_.1.1.1.1.1.1.1.2, hk_.1.1.1.1.1.1.2, hk_.1.1.1.1.1.2, hk_.1.1.1.1.2, hk_.1.1.1.2, hk_.1.1.2, hk_.1.2⟩)); have n4_ := am_ (Kd.R_reok rfl hy0 (fun k_ e_ => HO1015.out.1 k_ e_)); have n5_ := am_ (Kd.R_mono (ok' := fun k_ => some k_ ≠ (.slice Ao24 t1001.length co24 : Value).ownBlock ∧ some k_ ≠ (.slice Ao25 t1004.length co25 : Value).ownBlock ∧ some k_ ≠ (.slice Ao33 t1007.length co33 : Value).ownBlock ∧ some k_ ≠ (.slice Ao29 t1010.length co29 : Value).ownBlock ∧ some k_ ≠ (.slice Ao30 t1013.length co30 : Value).ownBlock ∧ some k_ ≠ (.slice Ao35 t1020.length co35 : Value).ownBlock ∧ some k_ ≠ (.slice Ao37 t1024.length co37 : Value).ownBlock) (Kd.R_keptB (HO1018.out) hkp (fun k_ hk_ hs_ => (hk_.2.2.2.2.1) hs_)) (fun k_ hk_ => ⟨hk_.1.1, hk_.1.2.1, hk_.1.2.2.1, hk_.1.2.2.2.1, hk_.1.2.2.2.2.1, hk_.1.2.2.2.2.2.1, hk_.1.2.2.2.2.2.2⟩)); have n6_ := am_ (Kd.R_mono (ok' := fun k_ => some k_ ≠ (.slice Ao24 t1001.length co24 : Value).ownBlock ∧ some k_ ≠ (.slice Ao25 t1004.length co25 : Value).ownBlock ∧ some k_ ≠ (.slice Ao33 t1007.length co33 : Value).ownBlock ∧ some k_ ≠ (.slice Ao29 t1010.length co29 : Value).ownBlock ∧ some k_ ≠ (.slice Ao30 t1013.length co30 : Value).ownBlock ∧ some k_ ≠ (.slice Ao32 t1016.length co32 : Value).ownBlock ∧ some k_ ≠ (.slice Ao37 t1024.length co37 : Value).ownBlock) (Kd.R_keptB (HO1022.out) hkp (fun k_ hk_ hs_ => (hk_.2.2.2.2.1) hs_)) (fun k_ hk_ => ⟨hk_.1.1, hk_.1.2.1, hk_.1.2.2.1, hk_.1.2.2.2.1, hk_.1.2.2.2.2.1, hk_.1.2.2.2.2.2.1, hk_.1.2.2.2.2.2.2⟩)); have n7_ := am_ (Kd.R_mono (ok' := fun k_ => some k_ ≠ (.slice Ao24 t1001.length co24 : Value).ownBlock ∧ some k_ ≠ (.slice Ao25 t1004.length co25 : Value).ownBlock ∧ some k_ ≠ (.slice Ao33 t1007.length co33 : Value).ownBlock ∧ some k_ ≠ (.slice Ao29 t1010.length co29 : Value).ownBlock ∧ some k_ ≠ (.slice Ao30 t1013.length co30 : Value).ownBlock ∧ some k_ ≠ (.slice Ao32 t1016.length co32 : Value).ownBlock ∧ some k_ ≠ (.slice Ao35 t1020.length co35 : Value).ownBlock) (Kd.R_keptB (HO1026.out) hkp (fun k_ hk_ hs_ => (hk_.2.2.2.2.1) hs_)) (fun k_ hk_ => ⟨hk_.1.1, hk_.1.2.1, hk_.1.2.2.1, hk_.1.2.2.2.1, hk_.1.2.2.2.2.1, hk_.1.2.2.2.2.2.1, hk_.1.2.2.2.2.2.2⟩)); have n8_ := am_ (hb); clear HO1003; clear HO1006; clear HO1009; clear HO1012; clear HO1015; clear HO1018; clear HO1022; clear HO1026; clear HB; have HO1003 := n0_; have HO1006 := n1_; have HO1009 := n2_; have HO1012 := n3_; have HO1015 := n4_; have HO1018 := n5_; have HO1022 := n6_; have HO1026 := n7_; have HB := n8_; clear n0_ n1_ n2_ n3_ n4_ n5_ n6_ n7_ n8_; (try clear hb); (try clear hkp); (try clear hy0)))
      (try simp only [Act.put, List.setIfInBounds_toArray, List.set_cons_zero, List.set_cons_succ])
      go_cut [58] (fun v58 wc => ∃ (kq : Nat) (x58_20 : Bool), v58 = .bool x58_20 ∧ Aside0 (laws_FnExactPostOr.j0 kq l0 l1 t1007 t1016 x58_20 = some r) ∧ Aside0 (kq ≤ k) ∧ Aside0 (Kd.R (Kd.int .i64) 3 wc w.heap.size (fun k_ => some k_ ≠ ((.slice Ao32 t1016.length co32) : Value).ownBlock) (.slice Ao33 t1007.length co33) t1007) ∧ Aside0 (Kd.R (Kd.int .i64) 3 wc w.heap.size (fun k_ => some k_ ≠ ((.slice Ao33 t1007.length co33) : Value).ownBlock) (.slice Ao32 t1016.length co32) t1016) ∧ Aside0 (Below w.heap.size w wc))
      case first =>
       have H := HC21.out
       clear HC21
       by_cases c40 : t1030 < 0
       ·rw [if_pos c40] at H
        have c40b0 : decide (t1030 < 0) = true := decide_eq_true c40
        clear c40
        (first | rw [c40b0] | (simp only [i64_w, i32_w]; rw [c40b0]) | skip)
        have H' := am_ H
        clear H
        go_wp2
        go_meet
        case rel => exact ⟨_, (true), rs_, H', ⟨by first | omega | exact Nat.le_refl _⟩, ⟨by (with_reducible repeat (first | apply Kd.R_alloc | apply Kd.R_drewN | apply Kd.R_drew)); exact Kd.R_mono HO1009.out (fun _ hk => hk.2.2.2.2.1)⟩, ⟨by (with_reducible repeat (first | apply Kd.R_alloc | apply Kd.R_drewN | apply Kd.R_drew)); exact Kd.R_mono HO1018.out (fun _ hk => hk.2.2.1)⟩, ⟨bl_⟩⟩
       ·rw [if_neg c40] at H
        have c40b0 : decide (t1030 < 0) = false := decide_eq_false c40
        clear c40
        (first | rw [c40b0] | (simp only [i64_w, i32_w]; rw [c40b0]) | skip)
        replace H := Option.bind_eq_some_iff.mp H
        obtain ⟨t1032, A410, H⟩ := H
        replace H : (laws_FnExactPostOr.j0 k l0 l1 t1007 t1016 (!t1032)) = some r := H
        have A41 := am_ A410
        clear A410
        have H' := am_ H
        clear H
        go_wp2_with (first | (go_at_call 49; (with_reducible refine (laws_eqIntS.calls k _ _ t1016 _ _ t1007 t1032 _ ?side1 ?side2 ?side3 ?side4 A41.out).mono ?_); (case side1 => exact cc_ (Kd.R_reads' HO1018.out).2.2); (case side2 => exact (Kd.R_reads' HO1018.out).2.1); (case side3 => exact cc_ (Kd.R_reads' HO1009.out).2.2); (case side4 => exact (Kd.R_reads' HO1009.out).2.1); rintro e w' ⟨rfl, ⟨nd, rfl⟩⟩))
        go_meet
        case rel => exact ⟨_, (!t1032), rs_, H', ⟨by first | omega | exact Nat.le_refl _⟩, ⟨by (with_reducible repeat (first | apply Kd.R_alloc | apply Kd.R_drewN | apply Kd.R_drew)); exact Kd.R_mono HO1009.out (fun _ hk => hk.2.2.2.2.1)⟩, ⟨by (with_reducible repeat (first | apply Kd.R_alloc | apply Kd.R_drewN | apply Kd.R_drew)); exact Kd.R_mono HO1018.out (fun _ hk => hk.2.2.1)⟩, ⟨bl_⟩⟩
      case rest =>
       clear HC21
       try clear c1
       try clear p2
       try clear c3
       try clear c3b0
       try clear c3b1
       try clear c4
       try clear c4b0
       try clear c4b1
       try clear c5
       try clear c12
       try clear c15
       try clear c18
       try clear c40
       try clear c40b0
       obtain ⟨kq, x58_20, rfl, HA, HJ20, HO_5, HO_8, HB⟩ := hcut
       cases kq with
       | zero => exact absurd HA.out (by simp [laws_FnExactPostOr.j0])
       | succ kj20 =>
        have H := HA.out
        clear HA
        simp only [laws_FnExactPostOr.j0] at H
        by_cases c42 : x58_20 = true
        ·subst c42
         have H1 : (none) = some r := by rw [if_pos rfl] at H; exact H
         clear H
         have H := H1
         clear H1
         exact absurd H (by simp)
        ·replace c42 := Bool.eq_false_iff.mpr c42
         subst c42
         have H1 : ((laws_markIntS.f kj20 t1016 1).bind fun bt1033 => ((laws_heldIntS.f kj20 bt1033.2 1).bind fun t1035 => (if t1035 < 0 then (none) else (if t1035 = bt1033.1 then ((laws_toIntS.f kj20 l0).bind fun t1036 => ((laws_toIntS.f kj20 l1).bind fun t1039 => ((impl_PostOr.f kj20 t1036 t1039).bind fun t1042 => ((laws_eqIntS.f kj20 t1042 t1007).bind fun t1045 => (if t1045 = true then ((laws_heldIntS.f kj20 bt1033.2 1).bind fun t1046 => (if t1046 < 0 then (none) else (if t1046 = bt1033.1 then (some true) else (none)))) else (none)))))) else (none))))) = some r := by rw [if_neg (show ¬ (false = true) by decide)] at H; exact H
         clear H
         have H := H1
         clear H1
         replace H := Option.bind_eq_some_iff.mp H
         obtain ⟨⟨t1033, t1034⟩, A430, H⟩ := H
         replace H : ((laws_heldIntS.f kj20 t1034 1).bind fun t1035 => (if t1035 < 0 then (none) else (if t1035 = t1033 then ((laws_toIntS.f kj20 l0).bind fun t1036 => ((laws_toIntS.f kj20 l1).bind fun t1039 => ((impl_PostOr.f kj20 t1036 t1039).bind fun t1042 => ((laws_eqIntS.f kj20 t1042 t1007).bind fun t1045 => (if t1045 = true then ((laws_heldIntS.f kj20 t1034 1).bind fun t1046 => (if t1046 < 0 then (none) else (if t1046 = t1033 then (some true) else (none)))) else (none)))))) else (none)))) = some r := H
         have A43 := am_ A430
         clear A430
         replace H := Option.bind_eq_some_iff.mp H
         obtain ⟨t1035, A440, H⟩ := H
         replace H : (if t1035 < 0 then (none) else (if t1035 = t1033 then ((laws_toIntS.f kj20 l0).bind fun t1036 => ((laws_toIntS.f kj20 l1).bind fun t1039 => ((impl_PostOr.f kj20 t1036 t1039).bind fun t1042 => ((laws_eqIntS.f kj20 t1042 t1007).bind fun t1045 => (if t1045 = true then ((laws_heldIntS.f kj20 t1034 1).bind fun t1046 => (if t1046 < 0 then (none) else (if t1046 = t1033 then (some true) else (none)))) else (none)))))) else (none))) = some r := H
         have A44 := am_ A440
         clear A440
         by_cases c45 : t1035 < 0
         ·rw [if_pos c45] at H
          exact absurd H (by simp)
         ·rw [if_neg c45] at H
          have c45b0 : decide (t1035 < 0) = false := decide_eq_false c45
          clear c45
          by_cases c46 : t1035 = t1033
          ·rw [if_pos c46] at H
           have c46b0 : (t1035 == t1033) = true := beq_iff_eq.mpr c46
           have c46b1 : (t1035 != t1033) = false := bne_eq_false_iff_eq.mpr c46
           clear c46
           replace H := Option.bind_eq_some_iff.mp H
           obtain ⟨t1036, A470, H⟩ := H
           replace H : ((laws_toIntS.f kj20 l1).bind fun t1039 => ((impl_PostOr.f kj20 t1036 t1039).bind fun t1042 => ((laws_eqIntS.f kj20 t1042 t1007).bind fun t1045 => (if t1045 = true then ((laws_heldIntS.f kj20 t1034 1).bind fun t1046 => (if t1046 < 0 then (none) else (if t1046 = t1033 then (some true) else (none)))) else (none))))) = some r := H
           have A47 := am_ A470
           clear A470
           replace H := Option.bind_eq_some_iff.mp H
           obtain ⟨t1039, A480, H⟩ := H
           replace H : ((impl_PostOr.f kj20 t1036 t1039).bind fun t1042 => ((laws_eqIntS.f kj20 t1042 t1007).bind fun t1045 => (if t1045 = true then ((laws_heldIntS.f kj20 t1034 1).bind fun t1046 => (if t1046 < 0 then (none) else (if t1046 = t1033 then (some true) else (none)))) else (none)))) = some r := H
           have A48 := am_ A480
           clear A480
           replace H := Option.bind_eq_some_iff.mp H
           obtain ⟨t1042, A490, H⟩ := H
           replace H : ((laws_eqIntS.f kj20 t1042 t1007).bind fun t1045 => (if t1045 = true then ((laws_heldIntS.f kj20 t1034 1).bind fun t1046 => (if t1046 < 0 then (none) else (if t1046 = t1033 then (some true) else (none)))) else (none))) = some r := H
           have A49 := am_ A490
           clear A490
           replace H := Option.bind_eq_some_iff.mp H
           obtain ⟨t1045, A500, H⟩ := H
           replace H : (if t1045 = true then ((laws_heldIntS.f kj20 t1034 1).bind fun t1046 => (if t1046 < 0 then (none) else (if t1046 = t1033 then (some true) else (none)))) else (none)) = some r := H
           have A50 := am_ A500
           clear A500
           by_cases c51 : t1045 = true
           ·subst c51
            have H1 : ((laws_heldIntS.f kj20 t1034 1).bind fun t1046 => (if t1046 < 0 then (none) else (if t1046 = t1033 then (some true) else (none)))) = some r := by rw [if_pos rfl] at H; exact H
            clear H
            have H := H1
            clear H1
            replace H := Option.bind_eq_some_iff.mp H
            obtain ⟨t1046, A520, H⟩ := H
            replace H : (if t1046 < 0 then (none) else (if t1046 = t1033 then (some true) else (none))) = some r := H
            have A52 := am_ A520
            clear A520
            by_cases c53 : t1046 < 0
            ·rw [if_pos c53] at H
             exact absurd H (by simp)
            ·rw [if_neg c53] at H
             have c53b0 : decide (t1046 < 0) = false := decide_eq_false c53
             clear c53
             by_cases c54 : t1046 = t1033
             ·rw [if_pos c54] at H
              have c54b0 : (t1046 == t1033) = true := beq_iff_eq.mpr c54
              have c54b1 : (t1046 != t1033) = false := bne_eq_false_iff_eq.mpr c54
              clear c54
              obtain rfl := Option.some.inj H
              go_wp2_with (first | ((with_reducible refine gate_callee (f := 50) rfl ?_); refine goesL_ (some 61) rfl rfl Try.func50 (by kernel_rfl) rfl #[.slice Ao32 t1016.length co32, .int .i64 1] rfl ag_ ?_; (with_reducible refine (laws_markIntS.calls kj20 (fun k_ => some k_ = (.slice Ao32 t1016.length co32 : Value).ownBlock) (.slice Ao32 t1016.length co32) t1016 1 t1033 t1034 w _ ?side1 ?side2 A43.out).mono ?_); (case side1 => repeat (first | (with_reducible first | exact HB.out | apply below_alloc | apply pw_below_drewN | apply below_drew1) | exact HB.out)); (case side2 => exact Kd.R_tight rfl HO_8.out); rintro e w55 ⟨rfl, hy0, hb, hkp⟩; refine ⟨_, rfl, ?_⟩; have n0_ := am_ (Kd.R_mono (ok' := fun k_ => some k_ ≠ (.slice Ao32 t1016.length co32 : Value).ownBlock) (Kd.R_keptB (HO_5.out) hkp (fun k_ hk_ hs_ => (hk_) hs_)) (fun k_ hk_ => hk_.1)); have n1_ := am_ (Kd.R_reok rfl hy0 (fun k_ e_ => HO_8.out.1 k_ e_)); have n2_ := am_ (hb); clear HO_5; clear HO_8; clear HB; have HO_5 := n0_; have HO_8 := n1_; have HB := n2_; clear n0_ n1_ n2_; (try clear hb); (try clear hkp); (try clear hy0)) | ((with_reducible refine gate_callee (f := 51) rfl ?_); refine goesL_ (some 64) rfl rfl Try.func51 (by kernel_rfl) rfl #[.slice Ao32 t1034.length co32, .int .i64 1] rfl (by (try simp only [List.map_toArray, List.map_cons, List.map_nil]); first | done | (rw [show t1034.length = t1016.length from (Kd.R_reads' HO_8.out).1.symm] <;> rfl) | rfl | (simp only [List.length_drop, List.length_take]; rfl)) ?_; (with_reducible refine (laws_heldIntS.calls kj20 _ _ t1034 1 t1035 _ ?side1 ?side2 A44.out).mono ?_); (case side1 => exact cc_ (Kd.R_reads' HO_8.out).2.2); (case side2 => rw [show t1034.length = t1016.length from (Kd.R_reads' HO_8.out).1.symm]; exact (Kd.R_reads' HO_8.out).2.1); rintro e w' ⟨rfl, ⟨nd, rfl⟩⟩; refine ⟨_, rfl, ?_⟩) | ((with_reducible refine gate_callee (f := 47) rfl ?_); refine goesL_ (some 71) rfl rfl Try.func47 (by kernel_rfl) rfl #[.slice A0 l0.length c0] rfl ag_ ?_; (with_reducible refine (laws_toIntS.calls kj20 _ _ l0 t1036 _ ?side1 ?side2 A47.out).mono ?_); (case side1 => exact cc_ (Kd.C_below HR0.out bl_)); (case side2 => exact HC0.out); rintro e w56 ⟨v1037, rfl, ho0, hb⟩; refine ⟨_, rfl, ?_⟩; have n0_ := am_ (Kd.R_elder' (ro_ HO_5) (Kd.R_base ho0) hb); have n1_ := am_ (Kd.R_elder' (ro_ HO_8) (Kd.R_base ho0) hb); have n2_ := am_ (Kd.R_lower (Kd.R_new' (Kd.R_new' ho0 (Kd.R_lt (ro_ HO_5))) (Kd.R_lt (ro_ HO_8))) (below_size bl_)); have n3_ := am_ (below_step bl_ hb); clear HO_5; clear HO_8; clear HB; have HO_5 := n0_; have HO_8 := n1_; have HO1038 := n2_; have HB := n3_; clear n0_ n1_ n2_ n3_; (try clear hb); (try clear hb2); (try clear hk); (try clear hi); (try clear ho0)) | ((with_reducible refine gate_callee (f := 47) rfl ?_); refine goesL_ (some 73) rfl rfl Try.func47 (by kernel_rfl) rfl #[.slice A1 l1.length c1] rfl ag_ ?_; (with_reducible refine (laws_toIntS.calls kj20 _ _ l1 t1039 _ ?side1 ?side2 A48.out).mono ?_); (case side1 => exact cc_ (Kd.C_below HR1.out HB.out)); (case side2 => exact HC1.out); rintro e w57 ⟨v1040, rfl, ho0, hb⟩; refine ⟨_, rfl, ?_⟩; have n0_ := am_ (Kd.R_elder' (ro_ HO_5) (Kd.R_base ho0) hb); have n1_ := am_ (Kd.R_elder' (ro_ HO_8) (Kd.R_base ho0) hb); have n2_ := am_ (Kd.R_elder' (ro_ HO1038) (Kd.R_base ho0) hb); have n3_ := am_ (Kd.R_lower (Kd.R_new' (Kd.R_new' (Kd.R_new' ho0 (Kd.R_lt (ro_ HO_5))) (Kd.R_lt (ro_ HO_8))) (Kd.R_lt (ro_ HO1038))) (below_size bl_)); have n4_ := am_ (below_step bl_ hb); clear HO_5; clear HO_8; clear HO1038; clear HB; have HO_5 := n0_; have HO_8 := n1_; have HO1038 := n2_; have HO1041 := n3_; have HB := n4_; clear n0_ n1_ n2_ n3_ n4_; (try clear hb); (try clear hb2); (try clear hk); (try clear hi); (try clear ho0); obtain ⟨Ao58, co58, eo58⟩ := Kd.R_slice HO1038.out; subst eo58; obtain ⟨Ao59, co59, eo59⟩ := Kd.R_slice HO1041.out; subst eo59) | ((with_reducible refine gate_callee (f := 55) rfl ?_); refine goesL_ (some 74) rfl rfl Try.func55 (by kernel_rfl) rfl #[.slice Ao58 t1036.length co58, .slice Ao59 t1039.length co59] rfl ag_ ?_; (with_reducible refine (impl_PostOr.calls kj20 _ _ t1036 _ _ t1039 t1042 _ ?side1 ?side2 ?side3 ?side4 A49.out).mono ?_); (case side1 => exact cc_ (Kd.R_reads' HO1038.out).2.2); (case side2 => exact (Kd.R_reads' HO1038.out).2.1); (case side3 => exact cc_ (Kd.R_reads' HO1041.out).2.2); (case side4 => exact (Kd.R_reads' HO1041.out).2.1); rintro e w60 ⟨v1043, rfl, ho0, hb⟩; refine ⟨_, rfl, ?_⟩; have n0_ := am_ (Kd.R_elder' (ro_ HO_5) (Kd.R_base ho0) hb); have n1_ := am_ (Kd.R_elder' (ro_ HO_8) (Kd.R_base ho0) hb); have n2_ := am_ (Kd.R_elder' (ro_ HO1038) (Kd.R_base ho0) hb); have n3_ := am_ (Kd.R_elder' (ro_ HO1041) (Kd.R_base ho0) hb); have n4_ := am_ (Kd.R_lower (Kd.R_new' (Kd.R_new' (Kd.R_new' (Kd.R_new' ho0 (Kd.R_lt (ro_ HO_5))) (Kd.R_lt (ro_ HO_8))) (Kd.R_lt (ro_ HO1038))) (Kd.R_lt (ro_ HO1041))) (below_size bl_)); have n5_ := am_ (below_step bl_ hb); clear HO_5; clear HO_8; clear HO1038; clear HO1041; clear HB; have HO_5 := n0_; have HO_8 := n1_; have HO1038 := n2_; have HO1041 := n3_; have HO1044 := n4_; have HB := n5_; clear n0_ n1_ n2_ n3_ n4_ n5_; (try clear hb); (try clear hb2); (try clear hk); (try clear hi); (try clear ho0); obtain ⟨Ao61, co61, eo61⟩ := Kd.R_slice HO1044.out; subst eo61) | ((with_reducible refine gate_callee (f := 49) rfl ?_); refine goesL_ (some 77) rfl rfl Try.func49 (by kernel_rfl) rfl #[.slice Ao61 t1042.length co61, .slice Ao33 t1007.length co33] rfl ag_ ?_; (with_reducible refine (laws_eqIntS.calls kj20 _ _ t1042 _ _ t1007 true _ ?side1 ?side2 ?side3 ?side4 A50.out).mono ?_); (case side1 => exact cc_ (Kd.R_reads' HO1044.out).2.2); (case side2 => exact (Kd.R_reads' HO1044.out).2.1); (case side3 => exact cc_ (Kd.R_reads' HO_5.out).2.2); (case side4 => exact (Kd.R_reads' HO_5.out).2.1); rintro e w' ⟨rfl, ⟨nd, rfl⟩⟩; refine ⟨_, rfl, ?_⟩) | ((with_reducible refine gate_callee (f := 51) rfl ?_); refine goesL_ (some 81) rfl rfl Try.func51 (by kernel_rfl) rfl #[.slice Ao32 t1034.length co32, .int .i64 1] rfl (by (try simp only [List.map_toArray, List.map_cons, List.map_nil]); first | done | (rw [show t1034.length = t1016.length from (Kd.R_reads' HO_8.out).1.symm] <;> rfl) | rfl | (simp only [List.length_drop, List.length_take]; rfl)) ?_; (with_reducible refine (laws_heldIntS.calls kj20 _ _ t1034 1 t1046 _ ?side1 ?side2 A52.out).mono ?_); (case side1 => exact cc_ (Kd.R_reads' HO_8.out).2.2); (case side2 => rw [show t1034.length = t1016.length from (Kd.R_reads' HO_8.out).1.symm]; exact (Kd.R_reads' HO_8.out).2.1); rintro e w' ⟨rfl, ⟨nd, rfl⟩⟩; refine ⟨_, rfl, ?_⟩))
              go_ret
              exact ⟨rf_, bl_⟩
             ·rw [if_neg c54] at H
              exact absurd H (by simp)
           ·replace c51 := Bool.eq_false_iff.mpr c51
            subst c51
            have H1 : (none) = some r := by rw [if_neg (show ¬ (false = true) by decide)] at H; exact H
            clear H
            have H := H1
            clear H1
            exact absurd H (by simp)
          ·rw [if_neg c46] at H
           exact absurd H (by simp)
     ·replace c18 := Bool.eq_false_iff.mpr c18
      subst c18
      have H1 : (none) = some r := by rw [if_neg (show ¬ (false = true) by decide)] at H; exact H
      clear H
      have H := H1
      clear H1
      exact absurd H (by simp)
    ·replace c15 := Bool.eq_false_iff.mpr c15
     subst c15
     have H1 : (none) = some r := by rw [if_neg (show ¬ (false = true) by decide)] at H; exact H
     clear H
     have H := H1
     clear H1
     exact absurd H (by simp)
   ·replace c12 := Bool.eq_false_iff.mpr c12
    subst c12
    have H1 : (none) = some r := by rw [if_neg (show ¬ (false = true) by decide)] at H; exact H
    clear H
    have H := H1
    clear H1
    exact absurd H (by simp)

/-- THE ONE PURE STATEMENT of laws_FnExactPostOr: yours. -/
def laws_FnExactPostOr.Pure : Prop := ∀ (l0 : List Int) (l1 : List Int), l0.length ≤ maxLen → l0.length * 8 ≤ 140737488351232 → (∀ x ∈ l0, (Lit.int .i64 x).wf = true) → l1.length ≤ maxLen → l1.length * 8 ≤ 140737488351232 → (∀ x ∈ l1, (Lit.int .i64 x).wf = true) → ∃ k, laws_FnExactPostOr.f k l0 l1 = some true
theorem laws_FnExactPostOr.walk (P : laws_FnExactPostOr.Pure) (a0 : Option Addr) (len0 cap0 : Nat) (z0 : List Int) (a1 : Option Addr) (len1 cap1 : Nat) (z1 : List Int) (w : World) (w0 : (a0 = none ∧ len0 = 0 ∧ cap0 = 0 ∧ z0 = []) ∨ ∃ x, a0 = some x ∧ len0 ≤ cap0 ∧ cap0 ≤ maxLen ∧ z0.length = cap0 ∧ (∀ i, i < z0.length → w.cell? (x.add i) = some (.int .i64 (z0.getD i 0))) ∧ ∀ n ∈ z0, (Lit.int .i64 n).wf = true) (y0 : len0 * 8 ≤ 140737488351232) (w1 : (a1 = none ∧ len1 = 0 ∧ cap1 = 0 ∧ z1 = []) ∨ ∃ x, a1 = some x ∧ len1 ≤ cap1 ∧ cap1 ≤ maxLen ∧ z1.length = cap1 ∧ (∀ i, i < z1.length → w.cell? (x.add i) = some (.int .i64 (z1.getD i 0))) ∧ ∀ n ∈ z1, (Lit.int .i64 n).wf = true) (y1 : len1 * 8 ≤ 140737488351232) :
  Calls Try.prog 12 #[.slice a0 len0 cap0, .slice a1 len1 cap1] w fun e w' => e = .returned (.bool true) ∧ Below w.heap.size w w' := by
 obtain ⟨l0, rfl, hr0, hm0, hw0, hc0⟩ := ReadsInt.ofRowC w0
 obtain ⟨l1, rfl, hr1, hm1, hw1, hc1⟩ := ReadsInt.ofRowC w1
 obtain ⟨k, h⟩ := P l0 l1 hm0 y0 hw0 hm1 y1 hw1
 refine (laws_FnExactPostOr.calls k _ _ l0 _ _ l1 true w (Kd.C_of_reads (d := (0 : Int)) (h1 := fun _ => rfl) hr0) hc0 (Kd.C_of_reads (d := (0 : Int)) (h1 := fun _ => rfl) hr1) hc1 h).mono ?_
 rintro e w' ⟨rfl, hd⟩
 exact ⟨rfl, hd⟩

end Go.Proofs.Ytnnlgbpfdnaalaa.Pr
