/- Functions of the given program as plain Lean functions, and that the machine's calls come to them; written by a program of this session; no condition but those that each theorem states. -/
import Derived.Test.YtijdnbenofnglaaPrx0
import Derived.Test.YtijdnbenofnglaaPrx3
import Derived.Test.YtijdnbenofnglaaPrx5
import Derived.Test.YtijdnbenofnglaaPrx10
import Derived.Test.YtijdnbenofnglaaPrx11
namespace Go.Proofs.Ytijdnbenofnglaa.Pr
open Go.RowKit Go.Proofs.YtijdnbenofnglaaW.PrintWords Go.Proofs.YtijdnbenofnglaaW.PrintLast Go.Proofs.YtijdnbenofnglaaW.PrintMore
attribute [local go_sem] max2_int min2_int max_two min_two max_three min_three max_four min_four   -- for this text's walks alone
set_option linter.unusedVariables false
set_option linter.unusedSimpArgs false

/-! ### laws_zByte: function 24 -/
def laws_zByte.f (l0 : List Int) (a1 : Int) : Option (Int) := if a1 < (l0.length : Int) then (if 0 ≤ a1 then (some (wrap64 (rd l0 a1))) else (none)) else (some 0)
set_option maxHeartbeats 8000000 in
set_option maxRecDepth 100000 in
theorem laws_zByte.calls (A0 : Option Addr) (c0 : Nat) (l0 : List Int) (a1 : Int) (r : Int) (w : World) (hr0 : Kd.C (Kd.int .u8) w A0 l0.length l0) (hc0 : l0.length ≤ c0) (h : laws_zByte.f l0 a1 = some r) :
    Calls Try.prog 24 #[.slice A0 l0.length c0, .int .i64 a1] w fun e w' => e = .returned (.int .i64 r) ∧ Drawn0 w w' := by
  have HR0 := Aside0.mk hr0
  have HC0 := Aside0.mk hc0
  clear hr0 hc0
  have H : (if a1 < (l0.length : Int) then (if 0 ≤ a1 then (some (wrap64 (rd l0 a1))) else (none)) else (some 0)) = some r := h
  clear h
  by_cases c3 : a1 < (l0.length : Int)
  · rw [if_pos c3] at H
    have c3b0 : decide (a1 < (l0.length : Int)) = true := decide_eq_true c3
    clear c3
    by_cases c4 : 0 ≤ a1
    · rw [if_pos c4] at H
      have c4b0 : decide (0 ≤ a1) = true := decide_eq_true c4
      clear c4
      obtain rfl := Option.some.inj H
      have p126 : 0 ≤ (a1 : Int) := of_decide_eq_true (by first | (with_reducible assumption) | assumption)
      have q126 : a1 < (l0.length : Int) := of_decide_eq_true (by first | (with_reducible assumption) | assumption)
      obtain ⟨ad126, e126, hx126_0⟩ := Kd.at_int HR0.out a1 p126 q126
      cases e126
      replace p126 := eq_true p126
      replace q126 := eq_true q126
      go_enter Try.func24, Try.ntmps24
      go_wp2
      go_ret
      exact ⟨by first | rfl | (simp; done) | (simp [*]; done), by repeat (first | exact Drawn0.refl _ | apply Drawn0.step)⟩
    · rw [if_neg c4] at H
      exact absurd H (by simp)
  · rw [if_neg c3] at H
    have c3b0 : decide (a1 < (l0.length : Int)) = false := decide_eq_false c3
    clear c3
    obtain rfl := Option.some.inj H
    go_enter Try.func24, Try.ntmps24
    go_wp2
    go_ret
    exact ⟨by first | rfl | (simp; done) | (simp [*]; done), by repeat (first | exact Drawn0.refl _ | apply Drawn0.step)⟩

/-! ### laws_zInt: function 23 -/
def laws_zInt.l0 : Nat → List Int → Int → Int → Int → Option (Int)
  | 0, _, _, _, _ => none
  | k + 1, x0, x1, x5, x6 => if x6 < 8 then ((laws_zByte.f x0 (wrap64 (x1 + x6))).bind fun t127 => (laws_zInt.l0 k x0 x1 (Go.bits .or .i64 (wrap64 (x5 * 256)) t127) (wrap64 (x6 + 1)))) else (some x5)
def laws_zInt.f (k : Nat) (l0 : List Int) (a1 : Int) : Option (Int) := laws_zInt.l0 k l0 a1 0 0
theorem laws_zInt.mono_l : ∀ k, (∀ y0 y1 y2 y3, LeO (laws_zInt.l0 k y0 y1 y2 y3) (laws_zInt.l0 (k + 1) y0 y1 y2 y3))
  | 0 => fun _ _ _ _ r h => by simp [laws_zInt.l0] at h
  | k + 1 => by
    have ih0 := laws_zInt.mono_l k
    · intro y0 y1 y2 y3
      unfold laws_zInt.l0
      repeat' first
      | (with_reducible exact ih0 _ _ _ _)
      | (with_reducible exact LeO.refl _)
      | (with_reducible exact LeO.none _)
      | (with_reducible refine LeO.ite ?_ ?_)
      | (with_reducible refine LeO.bind ?_ (fun _ => ?_))
      | exact ih0 _ _ _ _
      | exact LeO.none _
      | refine LeO.ite ?_ ?_
      | refine LeO.bind ?_ (fun _ => ?_)
theorem laws_zInt.mono : ∀ a0 a1 k, LeO (laws_zInt.f k a0 a1) (laws_zInt.f (k + 1) a0 a1) := by
  intro a0 a1 k
  have ih0 := laws_zInt.mono_l k
  unfold laws_zInt.f
  repeat' first
      | (with_reducible exact ih0 _ _ _ _)
      | (with_reducible exact LeO.refl _)
      | (with_reducible exact LeO.none _)
      | (with_reducible refine LeO.ite ?_ ?_)
      | (with_reducible refine LeO.bind ?_ (fun _ => ?_))
      | exact ih0 _ _ _ _
      | exact LeO.none _
      | refine LeO.ite ?_ ?_
      | refine LeO.bind ?_ (fun _ => ?_)
set_option maxHeartbeats 8000000 in
set_option maxRecDepth 100000 in
theorem laws_zInt.calls (k : Nat) (A0 : Option Addr) (c0 : Nat) (l0 : List Int) (a1 : Int) (r : Int) (w : World) (hr0 : Kd.C (Kd.int .u8) w A0 l0.length l0) (hc0 : l0.length ≤ c0) (h : laws_zInt.f k l0 a1 = some r) :
    Calls Try.prog 23 #[.slice A0 l0.length c0, .int .i64 a1] w fun e w' => e = .returned (.int .i64 r) ∧ Drawn0 w w' := by
  have HR0 := Aside0.mk hr0
  have HC0 := Aside0.mk hc0
  clear hr0 hc0
  have H : (laws_zInt.l0 k l0 a1 0 0) = some r := h
  clear h
  have H' := Aside0.mk H
  clear H
  go_enter Try.func23, Try.ntmps23
  go_wp2
  go_loopg [5, 6] k (fun kq v5 v6 w' => ∃ (x5_1 : Int) (x6_1 : Int), v5 = .int .i64 x5_1 ∧ v6 = .int .i64 x6_1 ∧ Aside0 (laws_zInt.l0 kq l0 a1 x5_1 x6_1 = some r) ∧ Aside0 (kq ≤ k) ∧ Drawn0 w w')
  case atStart => exact ⟨(0), (0), (by first | rfl | (simp; done) | (simp [*]; done)), (by first | rfl | (simp; done) | (simp [*]; done)), H', ⟨Nat.le_refl _⟩, by repeat (first | exact Drawn0.refl _ | apply Drawn0.step)⟩
  case round =>
    clear H'
    try clear c2
    try clear p2
    obtain ⟨x5_1, x6_1, rfl, rfl, HA, HK1, ⟨m1, rfl⟩⟩ := hrel
    cases gk with
    | zero => exact absurd HA.out (by simp [laws_zInt.l0])
    | succ k1 =>
      have H := HA.out
      clear HA
      simp only [laws_zInt.l0] at H
      by_cases c3 : x6_1 < 8
      · rw [if_pos c3] at H
        have c3b0 : decide (x6_1 < 8) = true := decide_eq_true c3
        clear c3
        replace H := Option.bind_eq_some_iff.mp H
        obtain ⟨t127, A40, H⟩ := H
        replace H : (laws_zInt.l0 k1 l0 a1 (Go.bits .or .i64 (wrap64 (x5_1 * 256)) t127) (wrap64 (x6_1 + 1))) = some r := H
        have A4 := Aside0.mk A40
        clear A40
        have H' := Aside0.mk H
        clear H
        go_wp2_with (first | ((with_reducible refine gate_callee (f := 24) rfl ?_); refine goesL_ (some 17) rfl rfl Try.func24 (by kernel_rfl) rfl #[.slice A0 l0.length c0, .int .i64 (wrap64 (a1 + x6_1))] rfl (by (try simp only [List.map_toArray, List.map_cons, List.map_nil]); first | done | rfl | (simp only [List.length_drop, List.length_take]; rfl)) ?_; (with_reducible refine (laws_zByte.calls _ _ l0 (wrap64 (a1 + x6_1)) t127 _ ?side1 ?side2 A4.out).mono ?_); (case side1 => repeat (first | exact HR0.out | (with_reducible refine Kd.C_alloc ?_ _) | (with_reducible refine Kd.C_drewN ?_ _) | (with_reducible refine Kd.C_drew ?_))); (case side2 => exact HC0.out); rintro e w' ⟨rfl, ⟨nd, rfl⟩⟩; refine ⟨_, rfl, ?_⟩))
        go_roundg k1
        case measure => have := HK1.out; omega
        case rel => exact ⟨(Go.bits .or .i64 (wrap64 (x5_1 * 256)) t127), (wrap64 (x6_1 + 1)), (by first | rfl | (simp; done) | (simp [*]; done)), (by first | rfl | (simp; done) | (simp [*]; done)), H', ⟨by have := HK1.out; omega⟩, by repeat (first | exact Drawn0.refl _ | apply Drawn0.step)⟩
      · rw [if_neg c3] at H
        have c3b0 : decide (x6_1 < 8) = false := decide_eq_false c3
        clear c3
        obtain rfl := Option.some.inj H
        go_wp2
        go_ret
        exact ⟨by first | rfl | (simp; done) | (simp [*]; done), by repeat (first | exact Drawn0.refl _ | apply Drawn0.step)⟩

/-! ### laws_FnVar: function 7 -/
def laws_FnVar.f (k : Nat) (l0 : List Int) : Option (Bool) := if (l0.length : Int) > 1048576 then (some true) else ((laws_zInt.f k l0 1).bind fun t135 => ((laws_zByte.f l0 0).bind fun t136 => (if 0 ≤ (IntKind.u64.wrap (Int.tmod t136 64)) then ((impl_PutVar.f k (shr .i64 t135 (IntKind.u64.wrap (Int.tmod t136 64)))).bind fun t137 => ((some (([] : List Int) : List Int)).bind fun y140 => (if y140.length + l0.length < 140737488355328 then ((some (y140 ++ l0 : List Int)).bind fun y143 => (if y143.length + t137.length < 140737488355328 then ((some (y143 ++ t137 : List Int)).bind fun y146 => (if y146.length < 140737488355328 then ((impl_TakeVar.f k (y146 ++ [7]) (l0.length : Int)).bind fun bt152 => (if bt152.1 = (shr .i64 t135 (IntKind.u64.wrap (Int.tmod t136 64))) then (if bt152.2 = (wrap64 ((l0.length : Int) + (t137.length : Int))) then (if (t137.length : Int) ≥ 1 then (if (t137.length : Int) ≤ 10 then ((impl_ZigZag.f (shr .i64 t135 (IntKind.u64.wrap (Int.tmod t136 64)))).bind fun t154 => ((impl_UnZigZag.f t154).bind fun t155 => (if t155 = (shr .i64 t135 (IntKind.u64.wrap (Int.tmod t136 64))) then ((impl_UnZigZag.f (shr .i64 t135 (IntKind.u64.wrap (Int.tmod t136 64)))).bind fun t156 => ((impl_ZigZag.f t156).bind fun t157 => (some (t157 == (shr .i64 t135 (IntKind.u64.wrap (Int.tmod t136 64))))))) else (none)))) else (none)) else (none)) else (none)) else (none))) else (none))) else (none))) else (none)))) else (none))))
theorem laws_FnVar.mono : ∀ a0 k, LeO (laws_FnVar.f k a0) (laws_FnVar.f (k + 1) a0) := by
  intro a0 k
  unfold laws_FnVar.f
  repeat' first
      | (with_reducible exact impl_PutVar.mono _ _)
      | (with_reducible exact impl_TakeVar.mono _ _ _)
      | (with_reducible exact laws_zInt.mono _ _ _)
      | (with_reducible exact LeO.refl _)
      | (with_reducible exact LeO.none _)
      | (with_reducible refine LeO.ite ?_ ?_)
      | (with_reducible refine LeO.bind ?_ (fun _ => ?_))
      | exact impl_PutVar.mono _ _
      | exact impl_TakeVar.mono _ _ _
      | exact laws_zInt.mono _ _ _
      | exact LeO.none _
      | refine LeO.ite ?_ ?_
      | refine LeO.bind ?_ (fun _ => ?_)
set_option maxHeartbeats 8000000 in
set_option maxRecDepth 100000 in
theorem laws_FnVar.calls (k : Nat) (A0 : Option Addr) (c0 : Nat) (l0 : List Int) (r : Bool) (w : World) (hr0 : Kd.C (Kd.int .u8) w A0 l0.length l0) (hc0 : l0.length ≤ c0) (h : laws_FnVar.f k l0 = some r) :
    Calls Try.prog 7 #[.slice A0 l0.length c0] w fun e w' => e = .returned (.bool r) ∧ Below w.heap.size w w' := by
  have HR0 := Aside0.mk hr0
  have HC0 := Aside0.mk hc0
  clear hr0 hc0
  have HB := Aside0.mk (Below.refl w.heap.size w)
  have H : (if (l0.length : Int) > 1048576 then (some true) else ((laws_zInt.f k l0 1).bind fun t135 => ((laws_zByte.f l0 0).bind fun t136 => (if 0 ≤ (IntKind.u64.wrap (Int.tmod t136 64)) then ((impl_PutVar.f k (shr .i64 t135 (IntKind.u64.wrap (Int.tmod t136 64)))).bind fun t137 => ((some (([] : List Int) : List Int)).bind fun y140 => (if y140.length + l0.length < 140737488355328 then ((some (y140 ++ l0 : List Int)).bind fun y143 => (if y143.length + t137.length < 140737488355328 then ((some (y143 ++ t137 : List Int)).bind fun y146 => (if y146.length < 140737488355328 then ((impl_TakeVar.f k (y146 ++ [7]) (l0.length : Int)).bind fun bt152 => (if bt152.1 = (shr .i64 t135 (IntKind.u64.wrap (Int.tmod t136 64))) then (if bt152.2 = (wrap64 ((l0.length : Int) + (t137.length : Int))) then (if (t137.length : Int) ≥ 1 then (if (t137.length : Int) ≤ 10 then ((impl_ZigZag.f (shr .i64 t135 (IntKind.u64.wrap (Int.tmod t136 64)))).bind fun t154 => ((impl_UnZigZag.f t154).bind fun t155 => (if t155 = (shr .i64 t135 (IntKind.u64.wrap (Int.tmod t136 64))) then ((impl_UnZigZag.f (shr .i64 t135 (IntKind.u64.wrap (Int.tmod t136 64)))).bind fun t156 => ((impl_ZigZag.f t156).bind fun t157 => (some (t157 == (shr .i64 t135 (IntKind.u64.wrap (Int.tmod t136 64))))))) else (none)))) else (none)) else (none)) else (none)) else (none))) else (none))) else (none))) else (none)))) else (none))))) = some r := h
  clear h
  by_cases c2 : (l0.length : Int) > 1048576
  · rw [if_pos c2] at H
    have c2b0 : decide (1048576 < (l0.length : Int)) = true := decide_eq_true c2
    have c2b1 : decide (1048576 < l0.length) = true := decide_eq_true (by omega)
    clear c2
    obtain rfl := Option.some.inj H
    go_enter Try.func7, Try.ntmps7
    go_wp2
    go_ret
    exact ⟨by first | rfl | (simp [errW_none, errW_some] <;> rfl) | (simp [*, errW_none, errW_some] <;> rfl), by repeat (first | (with_reducible first | exact HB.out | apply below_alloc | apply pw_below_drewN | apply below_drew1) | exact HB.out)⟩
  · rw [if_neg c2] at H
    have c2b0 : decide (1048576 < (l0.length : Int)) = false := decide_eq_false c2
    have c2b1 : decide (1048576 < l0.length) = false := decide_eq_false (by omega)
    clear c2
    replace H := Option.bind_eq_some_iff.mp H
    obtain ⟨t135, A30, H⟩ := H
    replace H : ((laws_zByte.f l0 0).bind fun t136 => (if 0 ≤ (IntKind.u64.wrap (Int.tmod t136 64)) then ((impl_PutVar.f k (shr .i64 t135 (IntKind.u64.wrap (Int.tmod t136 64)))).bind fun t137 => ((some (([] : List Int) : List Int)).bind fun y140 => (if y140.length + l0.length < 140737488355328 then ((some (y140 ++ l0 : List Int)).bind fun y143 => (if y143.length + t137.length < 140737488355328 then ((some (y143 ++ t137 : List Int)).bind fun y146 => (if y146.length < 140737488355328 then ((impl_TakeVar.f k (y146 ++ [7]) (l0.length : Int)).bind fun bt152 => (if bt152.1 = (shr .i64 t135 (IntKind.u64.wrap (Int.tmod t136 64))) then (if bt152.2 = (wrap64 ((l0.length : Int) + (t137.length : Int))) then (if (t137.length : Int) ≥ 1 then (if (t137.length : Int) ≤ 10 then ((impl_ZigZag.f (shr .i64 t135 (IntKind.u64.wrap (Int.tmod t136 64)))).bind fun t154 => ((impl_UnZigZag.f t154).bind fun t155 => (if t155 = (shr .i64 t135 (IntKind.u64.wrap (Int.tmod t136 64))) then ((impl_UnZigZag.f (shr .i64 t135 (IntKind.u64.wrap (Int.tmod t136 64)))).bind fun t156 => ((impl_ZigZag.f t156).bind fun t157 => (some (t157 == (shr .i64 t135 (IntKind.u64.wrap (Int.tmod t136 64))))))) else (none)))) else (none)) else (none)) else (none)) else (none))) else (none))) else (none))) else (none)))) else (none))) = some r := H
    have A3 := Aside0.mk A30
    clear A30
    replace H := Option.bind_eq_some_iff.mp H
    obtain ⟨t136, A40, H⟩ := H
    replace H : (if 0 ≤ (IntKind.u64.wrap (Int.tmod t136 64)) then ((impl_PutVar.f k (shr .i64 t135 (IntKind.u64.wrap (Int.tmod t136 64)))).bind fun t137 => ((some (([] : List Int) : List Int)).bind fun y140 => (if y140.length + l0.length < 140737488355328 then ((some (y140 ++ l0 : List Int)).bind fun y143 => (if y143.length + t137.length < 140737488355328 then ((some (y143 ++ t137 : List Int)).bind fun y146 => (if y146.length < 140737488355328 then ((impl_TakeVar.f k (y146 ++ [7]) (l0.length : Int)).bind fun bt152 => (if bt152.1 = (shr .i64 t135 (IntKind.u64.wrap (Int.tmod t136 64))) then (if bt152.2 = (wrap64 ((l0.length : Int) + (t137.length : Int))) then (if (t137.length : Int) ≥ 1 then (if (t137.length : Int) ≤ 10 then ((impl_ZigZag.f (shr .i64 t135 (IntKind.u64.wrap (Int.tmod t136 64)))).bind fun t154 => ((impl_UnZigZag.f t154).bind fun t155 => (if t155 = (shr .i64 t135 (IntKind.u64.wrap (Int.tmod t136 64))) then ((impl_UnZigZag.f (shr .i64 t135 (IntKind.u64.wrap (Int.tmod t136 64)))).bind fun t156 => ((impl_ZigZag.f t156).bind fun t157 => (some (t157 == (shr .i64 t135 (IntKind.u64.wrap (Int.tmod t136 64))))))) else (none)))) else (none)) else (none)) else (none)) else (none))) else (none))) else (none))) else (none)))) else (none)) = some r := H
    have A4 := Aside0.mk A40
    clear A40
    obtain ⟨ji5, hji5⟩ : ∃ j_ : Int, (IntKind.u64.wrap (Int.tmod t136 64)) = j_ := ⟨_, rfl⟩
    replace H : (if 0 ≤ (ji5) then ((impl_PutVar.f k (shr .i64 t135 (ji5))).bind fun t137 => ((some (([] : List Int) : List Int)).bind fun y140 => (if y140.length + l0.length < 140737488355328 then ((some (y140 ++ l0 : List Int)).bind fun y143 => (if y143.length + t137.length < 140737488355328 then ((some (y143 ++ t137 : List Int)).bind fun y146 => (if y146.length < 140737488355328 then ((impl_TakeVar.f k (y146 ++ [7]) (l0.length : Int)).bind fun bt152 => (if bt152.1 = (shr .i64 t135 (ji5)) then (if bt152.2 = (wrap64 ((l0.length : Int) + (t137.length : Int))) then (if (t137.length : Int) ≥ 1 then (if (t137.length : Int) ≤ 10 then ((impl_ZigZag.f (shr .i64 t135 (ji5))).bind fun t154 => ((impl_UnZigZag.f t154).bind fun t155 => (if t155 = (shr .i64 t135 (ji5)) then ((impl_UnZigZag.f (shr .i64 t135 (ji5))).bind fun t156 => ((impl_ZigZag.f t156).bind fun t157 => (some (t157 == (shr .i64 t135 (ji5)))))) else (none)))) else (none)) else (none)) else (none)) else (none))) else (none))) else (none))) else (none)))) else (none)) = some r := by first | (rw [hji5] at H; exact H) | (simp only [hji5] at H ⊢; exact H)
    (try rw [hji5] at A3)
    (try rw [hji5] at A4)
    by_cases c6 : 0 ≤ (ji5)
    · rw [if_pos c6] at H
      have c6b0 := eq_true c6
      have c6b1 : decide (0 ≤ (ji5)) = true := decide_eq_true c6
      clear c6
      obtain ⟨ji7, hji7⟩ : ∃ j_ : Int, (shr .i64 t135 (ji5)) = j_ := ⟨_, rfl⟩
      replace H : ((impl_PutVar.f k (ji7)).bind fun t137 => ((some (([] : List Int) : List Int)).bind fun y140 => (if y140.length + l0.length < 140737488355328 then ((some (y140 ++ l0 : List Int)).bind fun y143 => (if y143.length + t137.length < 140737488355328 then ((some (y143 ++ t137 : List Int)).bind fun y146 => (if y146.length < 140737488355328 then ((impl_TakeVar.f k (y146 ++ [7]) (l0.length : Int)).bind fun bt152 => (if bt152.1 = (ji7) then (if bt152.2 = (wrap64 ((l0.length : Int) + (t137.length : Int))) then (if (t137.length : Int) ≥ 1 then (if (t137.length : Int) ≤ 10 then ((impl_ZigZag.f (ji7)).bind fun t154 => ((impl_UnZigZag.f t154).bind fun t155 => (if t155 = (ji7) then ((impl_UnZigZag.f (ji7)).bind fun t156 => ((impl_ZigZag.f t156).bind fun t157 => (some (t157 == (ji7))))) else (none)))) else (none)) else (none)) else (none)) else (none))) else (none))) else (none))) else (none)))) = some r := by first | (rw [hji7] at H; exact H) | (simp only [hji7] at H ⊢; exact H)
      (try rw [hji7] at A3)
      (try rw [hji7] at A4)
      have hji7_ : (t135 / 2 ^ min (ji5).toNat 64) = ji7 := hji7
      have hji7z : (ji5) ≤ 64 → (t135 / 2 ^ (ji5).toNat) = ji7 := shr_small hji7
      replace H := Option.bind_eq_some_iff.mp H
      obtain ⟨t137, A80, H⟩ := H
      replace H : ((some (([] : List Int) : List Int)).bind fun y140 => (if y140.length + l0.length < 140737488355328 then ((some (y140 ++ l0 : List Int)).bind fun y143 => (if y143.length + t137.length < 140737488355328 then ((some (y143 ++ t137 : List Int)).bind fun y146 => (if y146.length < 140737488355328 then ((impl_TakeVar.f k (y146 ++ [7]) (l0.length : Int)).bind fun bt152 => (if bt152.1 = (ji7) then (if bt152.2 = (wrap64 ((l0.length : Int) + (t137.length : Int))) then (if (t137.length : Int) ≥ 1 then (if (t137.length : Int) ≤ 10 then ((impl_ZigZag.f (ji7)).bind fun t154 => ((impl_UnZigZag.f t154).bind fun t155 => (if t155 = (ji7) then ((impl_UnZigZag.f (ji7)).bind fun t156 => ((impl_ZigZag.f t156).bind fun t157 => (some (t157 == (ji7))))) else (none)))) else (none)) else (none)) else (none)) else (none))) else (none))) else (none))) else (none))) = some r := H
      have A8 := Aside0.mk A80
      clear A80
      obtain ⟨y140, hy140⟩ : ∃ y_ : List Int, y_ = (([] : List Int)) := ⟨_, rfl⟩
      replace H : (if y140.length + l0.length < 140737488355328 then ((some (y140 ++ l0 : List Int)).bind fun y143 => (if y143.length + t137.length < 140737488355328 then ((some (y143 ++ t137 : List Int)).bind fun y146 => (if y146.length < 140737488355328 then ((impl_TakeVar.f k (y146 ++ [7]) (l0.length : Int)).bind fun bt152 => (if bt152.1 = (ji7) then (if bt152.2 = (wrap64 ((l0.length : Int) + (t137.length : Int))) then (if (t137.length : Int) ≥ 1 then (if (t137.length : Int) ≤ 10 then ((impl_ZigZag.f (ji7)).bind fun t154 => ((impl_UnZigZag.f t154).bind fun t155 => (if t155 = (ji7) then ((impl_UnZigZag.f (ji7)).bind fun t156 => ((impl_ZigZag.f t156).bind fun t157 => (some (t157 == (ji7))))) else (none)))) else (none)) else (none)) else (none)) else (none))) else (none))) else (none))) else (none)) = some r := by first | (rw [hy140]; with_reducible exact H) | (have H2_ := (Option.bind_some _ _).symm.trans H; rw [hy140]; with_reducible exact H2_) | (have H2_ := (Option.bind_some _ _).symm.trans H; with_reducible exact H2_) | with_reducible exact H | (rw [hy140]; exact H) | exact H
      have Ny140 := Aside0.mk hy140
      clear hy140
      by_cases c9 : y140.length + l0.length < 140737488355328
      · rw [if_pos c9] at H
        have LMc9 := Aside0.mk c9
        clear c9
        obtain ⟨y143, hy143⟩ : ∃ y_ : List Int, y_ = (y140 ++ l0) := ⟨_, rfl⟩
        replace H : (if y143.length + t137.length < 140737488355328 then ((some (y143 ++ t137 : List Int)).bind fun y146 => (if y146.length < 140737488355328 then ((impl_TakeVar.f k (y146 ++ [7]) (l0.length : Int)).bind fun bt152 => (if bt152.1 = (ji7) then (if bt152.2 = (wrap64 ((l0.length : Int) + (t137.length : Int))) then (if (t137.length : Int) ≥ 1 then (if (t137.length : Int) ≤ 10 then ((impl_ZigZag.f (ji7)).bind fun t154 => ((impl_UnZigZag.f t154).bind fun t155 => (if t155 = (ji7) then ((impl_UnZigZag.f (ji7)).bind fun t156 => ((impl_ZigZag.f t156).bind fun t157 => (some (t157 == (ji7))))) else (none)))) else (none)) else (none)) else (none)) else (none))) else (none))) else (none)) = some r := by first | (rw [hy143]; with_reducible exact H) | (have H2_ := (Option.bind_some _ _).symm.trans H; rw [hy143]; with_reducible exact H2_) | (have H2_ := (Option.bind_some _ _).symm.trans H; with_reducible exact H2_) | with_reducible exact H | (rw [hy143]; exact H) | exact H
        have Ny143 := Aside0.mk hy143
        clear hy143
        by_cases c10 : y143.length + t137.length < 140737488355328
        · rw [if_pos c10] at H
          have LMc10 := Aside0.mk c10
          clear c10
          obtain ⟨y146, hy146⟩ : ∃ y_ : List Int, y_ = (y143 ++ t137) := ⟨_, rfl⟩
          replace H : (if y146.length < 140737488355328 then ((impl_TakeVar.f k (y146 ++ [7]) (l0.length : Int)).bind fun bt152 => (if bt152.1 = (ji7) then (if bt152.2 = (wrap64 ((l0.length : Int) + (t137.length : Int))) then (if (t137.length : Int) ≥ 1 then (if (t137.length : Int) ≤ 10 then ((impl_ZigZag.f (ji7)).bind fun t154 => ((impl_UnZigZag.f t154).bind fun t155 => (if t155 = (ji7) then ((impl_UnZigZag.f (ji7)).bind fun t156 => ((impl_ZigZag.f t156).bind fun t157 => (some (t157 == (ji7))))) else (none)))) else (none)) else (none)) else (none)) else (none))) else (none)) = some r := by first | (rw [hy146]; with_reducible exact H) | (have H2_ := (Option.bind_some _ _).symm.trans H; rw [hy146]; with_reducible exact H2_) | (have H2_ := (Option.bind_some _ _).symm.trans H; with_reducible exact H2_) | with_reducible exact H | (rw [hy146]; exact H) | exact H
          have Ny146 := Aside0.mk hy146
          clear hy146
          by_cases c11 : y146.length < 140737488355328
          · rw [if_pos c11] at H
            have LMc11 := Aside0.mk c11
            clear c11
            obtain ⟨y149, hy149⟩ : ∃ y_ : List Int, y_ = (y146 ++ [7]) := ⟨_, rfl⟩
            replace H : ((impl_TakeVar.f k y149 (l0.length : Int)).bind fun bt152 => (if bt152.1 = (ji7) then (if bt152.2 = (wrap64 ((l0.length : Int) + (t137.length : Int))) then (if (t137.length : Int) ≥ 1 then (if (t137.length : Int) ≤ 10 then ((impl_ZigZag.f (ji7)).bind fun t154 => ((impl_UnZigZag.f t154).bind fun t155 => (if t155 = (ji7) then ((impl_UnZigZag.f (ji7)).bind fun t156 => ((impl_ZigZag.f t156).bind fun t157 => (some (t157 == (ji7))))) else (none)))) else (none)) else (none)) else (none)) else (none))) = some r := by first | (rw [hy149]; with_reducible exact H) | (have H2_ := (Option.bind_some _ _).symm.trans H; rw [hy149]; with_reducible exact H2_) | (have H2_ := (Option.bind_some _ _).symm.trans H; with_reducible exact H2_) | with_reducible exact H | (rw [hy149]; exact H) | exact H
            have Ny149 := Aside0.mk hy149
            clear hy149
            replace H := Option.bind_eq_some_iff.mp H
            obtain ⟨⟨t152, t153⟩, A120, H⟩ := H
            replace H : (if t152 = (ji7) then (if t153 = (wrap64 ((l0.length : Int) + (t137.length : Int))) then (if (t137.length : Int) ≥ 1 then (if (t137.length : Int) ≤ 10 then ((impl_ZigZag.f (ji7)).bind fun t154 => ((impl_UnZigZag.f t154).bind fun t155 => (if t155 = (ji7) then ((impl_UnZigZag.f (ji7)).bind fun t156 => ((impl_ZigZag.f t156).bind fun t157 => (some (t157 == (ji7))))) else (none)))) else (none)) else (none)) else (none)) else (none)) = some r := H
            have A12 := Aside0.mk A120
            clear A120
            by_cases c13 : t152 = (ji7)
            · rw [if_pos c13] at H
              have c13b0 : (t152 == (ji7)) = true := beq_iff_eq.mpr c13
              have c13b1 : (t152 != (ji7)) = false := bne_eq_false_iff_eq.mpr c13
              clear c13
              by_cases c14 : t153 = (wrap64 ((l0.length : Int) + (t137.length : Int)))
              · rw [if_pos c14] at H
                have c14b0 : (t153 == (wrap64 ((l0.length : Int) + (t137.length : Int)))) = true := beq_iff_eq.mpr c14
                have c14b1 : (t153 != (wrap64 ((l0.length : Int) + (t137.length : Int)))) = false := bne_eq_false_iff_eq.mpr c14
                clear c14
                by_cases c15 : (t137.length : Int) ≥ 1
                · rw [if_pos c15] at H
                  have c15b0 : decide (1 ≤ (t137.length : Int)) = true := decide_eq_true c15
                  have c15b1 : decide (1 ≤ t137.length) = true := decide_eq_true (by omega)
                  clear c15
                  by_cases c16 : (t137.length : Int) ≤ 10
                  · rw [if_pos c16] at H
                    have c16b0 : decide ((t137.length : Int) ≤ 10) = true := decide_eq_true c16
                    have c16b1 : decide (t137.length ≤ 10) = true := decide_eq_true (by omega)
                    clear c16
                    replace H := Option.bind_eq_some_iff.mp H
                    obtain ⟨t154, A170, H⟩ := H
                    replace H : ((impl_UnZigZag.f t154).bind fun t155 => (if t155 = (ji7) then ((impl_UnZigZag.f (ji7)).bind fun t156 => ((impl_ZigZag.f t156).bind fun t157 => (some (t157 == (ji7))))) else (none))) = some r := H
                    have A17 := Aside0.mk A170
                    clear A170
                    replace H := Option.bind_eq_some_iff.mp H
                    obtain ⟨t155, A180, H⟩ := H
                    replace H : (if t155 = (ji7) then ((impl_UnZigZag.f (ji7)).bind fun t156 => ((impl_ZigZag.f t156).bind fun t157 => (some (t157 == (ji7))))) else (none)) = some r := H
                    have A18 := Aside0.mk A180
                    clear A180
                    by_cases c19 : t155 = (ji7)
                    · rw [if_pos c19] at H
                      have c19b0 : (t155 == (ji7)) = true := beq_iff_eq.mpr c19
                      have c19b1 : (t155 != (ji7)) = false := bne_eq_false_iff_eq.mpr c19
                      clear c19
                      replace H := Option.bind_eq_some_iff.mp H
                      obtain ⟨t156, A200, H⟩ := H
                      replace H : ((impl_ZigZag.f t156).bind fun t157 => (some (t157 == (ji7)))) = some r := H
                      have A20 := Aside0.mk A200
                      clear A200
                      replace H := Option.bind_eq_some_iff.mp H
                      obtain ⟨t157, A210, H⟩ := H
                      replace H : (some (t157 == (ji7))) = some r := H
                      have A21 := Aside0.mk A210
                      clear A210
                      obtain rfl := Option.some.inj H
                      go_enter Try.func7, Try.ntmps7
                      go_wp2_with (first | ((with_reducible refine gate_callee (f := 23) rfl ?_); refine goesL_ (some 12) rfl rfl Try.func23 (by kernel_rfl) rfl #[.slice A0 l0.length c0, .int .i64 1] rfl (by (try simp only [List.map_toArray, List.map_cons, List.map_nil]); first | done | rfl | (simp only [List.length_drop, List.length_take]; rfl)) ?_; (with_reducible refine (laws_zInt.calls k _ _ l0 1 t135 _ ?side1 ?side2 A3.out).mono ?_); (case side1 => repeat (first | exact HR0.out | (with_reducible refine Kd.C_alloc ?_ _) | (with_reducible refine Kd.C_drewN ?_ _) | (with_reducible refine Kd.C_drew ?_))); (case side2 => exact HC0.out); rintro e w' ⟨rfl, ⟨nd, rfl⟩⟩; refine ⟨_, rfl, ?_⟩) | ((with_reducible refine gate_callee (f := 24) rfl ?_); refine goesL_ (some 14) rfl rfl Try.func24 (by kernel_rfl) rfl #[.slice A0 l0.length c0, .int .i64 0] rfl (by (try simp only [List.map_toArray, List.map_cons, List.map_nil]); first | done | rfl | (simp only [List.length_drop, List.length_take]; rfl)) ?_; (with_reducible refine (laws_zByte.calls _ _ l0 0 t136 _ ?side1 ?side2 A4.out).mono ?_); (case side1 => repeat (first | exact HR0.out | (with_reducible refine Kd.C_alloc ?_ _) | (with_reducible refine Kd.C_drewN ?_ _) | (with_reducible refine Kd.C_drew ?_))); (case side2 => exact HC0.out); rintro e w' ⟨rfl, ⟨nd, rfl⟩⟩; refine ⟨_, rfl, ?_⟩) | ((with_reducible refine gate_callee (f := 25) rfl ?_); refine goesL_ (some 19) rfl rfl Try.func25 (by kernel_rfl) rfl #[.int .i64 ji7] rfl (by (try simp only [List.map_toArray, List.map_cons, List.map_nil]); first | done | (simp only [hji7]; rfl) | rfl | (simp only [List.length_drop, List.length_take]; rfl)) ?_; (with_reducible refine (impl_PutVar.calls k ji7 t137 _ A8.out).mono ?_); rintro e w22 ⟨v138, rfl, ho0, hb⟩; refine ⟨_, rfl, ?_⟩; have n0_ := Aside0.mk (Kd.R_lower ho0 (below_size (by repeat (first | (with_reducible first | exact HB.out | apply below_alloc | apply pw_below_drewN | apply below_drew1) | exact HB.out)))); have n1_ := Aside0.mk (below_step (by repeat (first | (with_reducible first | exact HB.out | apply below_alloc | apply pw_below_drewN | apply below_drew1) | exact HB.out)) hb); clear HB; have HO139 := n0_; have HB := n1_; clear n0_ n1_; (try clear hb); (try clear hb2); (try clear hk); (try clear hi); (try clear ho0)) | ((with_reducible refine gate_dst (N := 20) rfl ?_); (try (refine gate_guard (by rfl) ?_; dsimp only)); refine Kd.R_lit (Kd.int .u8) _ 5 ?hg (N := 20) ?hd (xs := ([] : List Int)) (inner := []) (ok := fun _ => True) (okp := fun _ => True) ?hr ?hp (fun _ hk => hk) trivial (Below.refl _ _) (Nat.le_refl _) (by simp) ?_; (case hd => rfl); (case hg => rfl); (case hr => first | (go_simp; done) | (go_simp; rfl)); (case hp => exact (Reps.none _ _)); intro v141 w23 ho24 hb hg_ hnew_; clear hg_ hnew_; (first | rw [← Ny140.out] at ho24 | (simp only [Int.reduceToNat] at ho24; rw [← Ny140.out] at ho24)); have n0_ := Aside0.mk (Kd.R_elder' (by (with_reducible repeat (first | apply Kd.R_alloc | apply Kd.R_drewN | apply Kd.R_drew)); exact HO139.out) (Kd.R_base ho24) hb); have n1_ := Aside0.mk (Kd.R_lower (Kd.R_new' ho24 (Kd.R_lt (by (with_reducible repeat (first | apply Kd.R_alloc | apply Kd.R_drewN | apply Kd.R_drew)); exact HO139.out))) (below_size (by repeat (first | (with_reducible first | exact HB.out | apply below_alloc | apply pw_below_drewN | apply below_drew1) | exact HB.out)))); have n2_ := Aside0.mk (below_step (by repeat (first | (with_reducible first | exact HB.out | apply below_alloc | apply pw_below_drewN | apply below_drew1) | exact HB.out)) hb); clear HO139; clear HB; have HO139 := n0_; have HO142 := n1_; have HB := n2_; clear n0_ n1_ n2_; clear hb ho24) | ((with_reducible refine gate_builtin (b := .append) (xs := #[.tmp 20, .tmp 21]) rfl ?_); (try (refine gate_guard (by rfl) ?_; dsimp only)); at_builtin; refine Kd.R_append_rows (Kd.int .u8) (w0 := w) w.heap.size rfl (.tmp 20) (.tmp 21) 25 5 (.int .u8 0) 1 rfl Try.underlying25 info5 rfl (by decide) (by omega) v141 y140 l0 _ _ _ (fun k_ => some k_ ≠ (v138 : Value).ownBlock) (fun _ => False) rfl rfl ?aO ?aR (fun _ _ h => h) (fun _ h => h.elim) ?aF ?aB ?aS ?aL ?_; (case aR => repeat (first | exact (Kd.C_below HR0.out HB.out) | (with_reducible refine Kd.C_alloc ?_ _) | (with_reducible refine Kd.C_drewN ?_ _) | (with_reducible refine Kd.C_drew ?_))); (case aB => exact (by repeat (first | (with_reducible first | exact HB.out | apply below_alloc | apply pw_below_drewN | apply below_drew1) | exact HB.out))); (case aF => exact (fun k_ hk => Kd.fresh' (Kd.R_lt (by (with_reducible repeat (first | apply Kd.R_alloc | apply Kd.R_drewN | apply Kd.R_drew)); exact HO139.out)) k_ hk)); (case aO => exact (by (with_reducible repeat (first | apply Kd.R_alloc | apply Kd.R_drewN | apply Kd.R_drew)); exact Kd.R_mono HO142.out (fun _ hk => hk.2))); (case aS => exact (below_size (by repeat (first | (with_reducible first | exact HB.out | apply below_alloc | apply pw_below_drewN | apply below_drew1) | exact HB.out)))); (case aL => have := LMc9.out; omega); intro v144 w25 ho hb hg hat; rw [← Ny143.out] at ho; have n0_ := Aside0.mk (Kd.R_after (ok := (fun _ => True)) (by (with_reducible repeat (first | apply Kd.R_alloc | apply Kd.R_drewN | apply Kd.R_drew)); exact HO139.out) hg hat); have n1_ := Aside0.mk (hb); have n2_ := Aside0.mk (ho); clear HO139; clear HB; clear HO142; have HO139 := n0_; have HB := n1_; have HO145 := n2_; clear n0_ n1_ n2_; clear ho hb hg hat; obtain ⟨Ao27, co27, eo27⟩ := Kd.R_slice HO139.out; subst eo27) | ((with_reducible refine gate_builtin (b := .append) (xs := #[.tmp 22, .tmp 23]) rfl ?_); (try (refine gate_guard (by rfl) ?_; dsimp only)); at_builtin; refine Kd.R_append_rows (Kd.int .u8) (w0 := w) w.heap.size rfl (.tmp 22) (.tmp 23) 25 5 (.int .u8 0) 1 rfl Try.underlying25 info5 rfl (by decide) (by omega) v144 y143 t137 _ _ _ (fun k_ => some k_ ≠ (.slice Ao27 t137.length co27 : Value).ownBlock) (fun _ => False) rfl rfl ?aO ?aR (fun _ _ h => h) (fun _ h => h.elim) ?aF ?aB ?aS ?aL ?_; (case aR => repeat (first | exact (Kd.R_reads' HO139.out).2.2 | (with_reducible refine Kd.C_alloc ?_ _) | (with_reducible refine Kd.C_drewN ?_ _) | (with_reducible refine Kd.C_drew ?_))); (case aB => exact (by repeat (first | (with_reducible first | exact HB.out | apply below_alloc | apply pw_below_drewN | apply below_drew1) | exact HB.out))); (case aF => exact (fun k_ hk => Kd.fresh' (Kd.R_lt (by (with_reducible repeat (first | apply Kd.R_alloc | apply Kd.R_drewN | apply Kd.R_drew)); exact HO139.out)) k_ hk)); (case aO => exact (by (with_reducible repeat (first | apply Kd.R_alloc | apply Kd.R_drewN | apply Kd.R_drew)); exact HO145.out)); (case aS => exact (below_size (by repeat (first | (with_reducible first | exact HB.out | apply below_alloc | apply pw_below_drewN | apply below_drew1) | exact HB.out)))); (case aL => have := LMc10.out; omega); intro v147 w26 ho hb hg hat; rw [← Ny146.out] at ho; have n0_ := Aside0.mk (Kd.R_after (ok := (fun _ => True)) (by (with_reducible repeat (first | apply Kd.R_alloc | apply Kd.R_drewN | apply Kd.R_drew)); exact HO139.out) hg hat); have n1_ := Aside0.mk (hb); have n2_ := Aside0.mk (ho); clear HO139; clear HB; clear HO145; have HO139 := n0_; have HB := n1_; have HO148 := n2_; clear n0_ n1_ n2_; clear ho hb hg hat) | ((with_reducible refine gate_builtin (b := .append) (xs := #[.tmp 25, .tmp 26]) rfl ?_); (try (refine gate_guard (by rfl) ?_; dsimp only)); at_builtin; refine Kd.R_append (Kd.int .u8) (w0 := w) w.heap.size rfl (.tmp 25) (.tmp 26) 25 5 (.int .u8 0) 1 rfl Try.underlying25 info5 rfl (by decide) (by omega) v147 y146 7 [.int .u8 7] (fun k_ => some k_ ≠ (.slice Ao27 t137.length co27 : Value).ownBlock) (fun _ => False) rfl rfl ?aP (fun _ hk => hk.elim) ?aF ?aO ?aB ?aS ?aL ?_; (case aP => exact rfl); (case aB => exact (by repeat (first | (with_reducible first | exact HB.out | apply below_alloc | apply pw_below_drewN | apply below_drew1) | exact HB.out))); (case aF => exact (fun k_ hk => Kd.fresh' (Kd.R_lt (by (with_reducible repeat (first | apply Kd.R_alloc | apply Kd.R_drewN | apply Kd.R_drew)); exact HO139.out)) k_ hk)); (case aO => exact (by (with_reducible repeat (first | apply Kd.R_alloc | apply Kd.R_drewN | apply Kd.R_drew)); exact HO148.out)); (case aS => exact (below_size (by repeat (first | (with_reducible first | exact HB.out | apply below_alloc | apply pw_below_drewN | apply below_drew1) | exact HB.out)))); (case aL => have := LMc11.out; omega); intro v150 w28 ho hb hg hat; rw [← Ny149.out] at ho; have n0_ := Aside0.mk (Kd.R_after (ok := (fun _ => True)) (by (with_reducible repeat (first | apply Kd.R_alloc | apply Kd.R_drewN | apply Kd.R_drew)); exact HO139.out) hg hat); have n1_ := Aside0.mk (hb); have n2_ := Aside0.mk (ho); clear HO139; clear HB; clear HO148; have HO139 := n0_; have HB := n1_; have HO151 := n2_; clear n0_ n1_ n2_; clear ho hb hg hat; obtain ⟨Ao29, co29, eo29⟩ := Kd.R_slice HO151.out; subst eo29) | ((with_reducible refine gate_callee (f := 26) rfl ?_); refine goesL_ (some 32) rfl rfl Try.func26 (by kernel_rfl) rfl #[.slice Ao29 y149.length co29, .int .i64 (l0.length : Int)] rfl (by (try simp only [List.map_toArray, List.map_cons, List.map_nil]); first | done | rfl | (simp only [List.length_drop, List.length_take]; rfl)) ?_; (with_reducible refine (impl_TakeVar.calls k _ _ y149 (l0.length : Int) t152 t153 _ ?side1 ?side2 A12.out).mono ?_); (case side1 => repeat (first | exact (Kd.R_reads' HO151.out).2.2 | (with_reducible refine Kd.C_alloc ?_ _) | (with_reducible refine Kd.C_drewN ?_ _) | (with_reducible refine Kd.C_drew ?_))); (case side2 => exact (Kd.R_reads' HO151.out).2.1); rintro e w' ⟨rfl, ⟨nd, rfl⟩⟩; refine ⟨_, rfl, ?_⟩) | (go_at_call 16; (with_reducible refine (impl_ZigZag.calls ji7 t154 _ A17.out).mono ?_); rintro e w' ⟨rfl, ⟨nd, rfl⟩⟩) | (go_at_call 18; (with_reducible refine (impl_UnZigZag.calls t154 t155 _ A18.out).mono ?_); rintro e w' ⟨rfl, ⟨nd, rfl⟩⟩) | (go_at_call 18; (with_reducible refine (impl_UnZigZag.calls ji7 t156 _ A20.out).mono ?_); rintro e w' ⟨rfl, ⟨nd, rfl⟩⟩) | (go_at_call 16; (with_reducible refine (impl_ZigZag.calls t156 t157 _ A21.out).mono ?_); rintro e w' ⟨rfl, ⟨nd, rfl⟩⟩))
                      go_ret
                      exact ⟨by first | rfl | (simp [errW_none, errW_some] <;> rfl) | (simp only [← hji5, ← hji7]; first | rfl | (simp [errW_none, errW_some] <;> rfl)) | (simp [*, errW_none, errW_some] <;> rfl), by repeat (first | (with_reducible first | exact HB.out | apply below_alloc | apply pw_below_drewN | apply below_drew1) | exact HB.out)⟩
                    · rw [if_neg c19] at H
                      exact absurd H (by simp)
                  · rw [if_neg c16] at H
                    exact absurd H (by simp)
                · rw [if_neg c15] at H
                  exact absurd H (by simp)
              · rw [if_neg c14] at H
                exact absurd H (by simp)
            · rw [if_neg c13] at H
              exact absurd H (by simp)
          · rw [if_neg c11] at H
            exact absurd H (by simp)
        · rw [if_neg c10] at H
          exact absurd H (by simp)
      · rw [if_neg c9] at H
        exact absurd H (by simp)
    · rw [if_neg c6] at H
      exact absurd H (by simp)

/-- THE ONE PURE STATEMENT of laws_FnVar: yours. -/
def laws_FnVar.Pure : Prop := ∀ (l0 : List Int), l0.length ≤ maxLen → l0.length * 1 ≤ 140737488351232 → (∀ x ∈ l0, (Lit.int .u8 x).wf = true) → ∃ k, laws_FnVar.f k l0 = some true
theorem laws_FnVar.walk (P : laws_FnVar.Pure) (a0 : Option Addr) (len0 cap0 : Nat) (z0 : List Int) (w : World) (w0 : (a0 = none ∧ len0 = 0 ∧ cap0 = 0 ∧ z0 = []) ∨ ∃ x, a0 = some x ∧ len0 ≤ cap0 ∧ cap0 ≤ maxLen ∧ z0.length = cap0 ∧ (∀ i, i < z0.length → w.cell? (x.add i) = some (.int .u8 (z0.getD i 0))) ∧ ∀ n ∈ z0, (Lit.int .u8 n).wf = true) (y0 : len0 * 1 ≤ 140737488351232) :
    Calls Try.prog 7 #[.slice a0 len0 cap0] w fun e w' => e = .returned (.bool true) ∧ Below w.heap.size w w' := by
  obtain ⟨l0, rfl, hr0, hm0, hw0, hc0⟩ := ReadsInt.ofRowC w0
  obtain ⟨k, h⟩ := P l0 hm0 y0 hw0
  refine (laws_FnVar.calls k _ _ l0 true w (Kd.C_of_reads (d := (0 : Int)) (h1 := fun _ => rfl) hr0) hc0 h).mono ?_
  rintro e w' ⟨rfl, hd⟩
  exact ⟨rfl, hd⟩

end Go.Proofs.Ytijdnbenofnglaa.Pr
