/- Functions of the given program as plain Lean functions, and that the machine's calls come to them; written by a program of this session; no condition but those that each theorem states. -/
import Derived.Test.YtlibcibpflfboaaDoorShelf
import Derived.Test.YtlibcibpflfboaaDoorWRepsOne
import Derived.Test.YtlibcibpflfboaaDoorWFour
import Derived.Test.YtlibcibpflfboaaDoorPrx0
import Derived.Test.YtlibcibpflfboaaDoorPrxgfda1fn1
namespace Go.Proofs.YtlibcibpflfboaaDoor.Pr
open Go.RowKit Go.Proofs.YtlibcibpflfboaaDoorW.PrintWords Go.Proofs.YtlibcibpflfboaaDoorW.PrintLast Go.Proofs.YtlibcibpflfboaaDoorW.PrintMore
attribute [local go_sem] max2_int min2_int max_two min_two max_three min_three max_four min_four   -- for this text's walks alone
set_option linter.unusedVariables false
set_option linter.unusedSimpArgs false

/-! ### impl_wordOf: function 32 -/
def impl_wordOf.l0 : Nat → ByteArray → Int → Option (ByteArray × ByteArray)
 | 0, _, _ => none
 | k + 1, x0, x4 => if x4 < (x0.size : Int) then (if 0 ≤ x4 then ((impl_wordByte.f (bt x0 x4)).bind fun t1001 => (if t1001 = true then (impl_wordOf.l0 k x0 (wrap64 (x4 + 1))) else (if x4 ≤ (x0.size : Int) then (some (x0.extract 0 (x4 : Int).toNat, x0.extract (x4 : Int).toNat x0.size)) else (none)))) else (none)) else (if 0 ≤ x4 then (if x4 ≤ (x0.size : Int) then (some (x0.extract 0 (x4 : Int).toNat, x0.extract (x4 : Int).toNat x0.size)) else (none)) else (none))
def impl_wordOf.f (k : Nat) (a0 : ByteArray) : Option (ByteArray × ByteArray) := impl_wordOf.l0 k a0 0
theorem impl_wordOf.mono_l : ∀ k, (∀ y0 y1, LeO (impl_wordOf.l0 k y0 y1) (impl_wordOf.l0 (k + 1) y0 y1))
 | 0 => fun _ _ r h => by simp [impl_wordOf.l0] at h
 | k + 1 => by
  have ih0 := impl_wordOf.mono_l k
  ·intro y0 y1
   unfold impl_wordOf.l0
   repeat' with_reducible first | apply ih0 | apply LeO.refl | apply LeO.none | apply LeO.ite | refine LeO.bind ?_ (fun _ => ?_)
theorem impl_wordOf.mono : ∀ a0 k, LeO (impl_wordOf.f k a0) (impl_wordOf.f (k + 1) a0) := by
 intro a0 k
 have ih0 := impl_wordOf.mono_l k
 unfold impl_wordOf.f
 repeat' with_reducible first | apply ih0 | apply LeO.refl | apply LeO.none | apply LeO.ite | refine LeO.bind ?_ (fun _ => ?_)
set_option maxHeartbeats 8000000 in
set_option maxRecDepth 100000 in
theorem impl_wordOf.calls (k : Nat) (a0 : ByteArray) (r1 : ByteArray) (r2 : ByteArray) (w : World) (h : impl_wordOf.f k a0 = some (r1, r2)) :
  Calls Tryd.prog 32 #[.string a0] w fun e w' => e = .returned (.tuple #[.string r1, .string r2]) ∧ Drawn0 w w' := by
 have H : (impl_wordOf.l0 k a0 0) = some (r1, r2) := h; clear h; have H' := am_ H; clear H; go_enter Tryd.func32, Tryd.ntmps32; go_wp2; (repeat (go_quiet (fail); try go_wp2))
 go_loopg [4] k (fun kq v4 w' => ∃ (x4_1 : Int), v4 = .int .i64 x4_1 ∧ Aside0 (impl_wordOf.l0 kq a0 x4_1 = some (r1, r2)) ∧ Aside0 (kq ≤ k) ∧ Drawn0 w w')
 case atStart => exact ⟨(0), rs_, H', ⟨Nat.le_refl _⟩, by repeat (first | exact Drawn0.refl _ | apply Drawn0.step)⟩
 case round =>
  clear H'; obtain ⟨x4_1, rfl, HA, HK1, ⟨m1, rfl⟩⟩ := hrel
  cases gk with
  | zero => exact absurd HA.out (by simp [impl_wordOf.l0])
  | succ k1 =>
   have H := HA.out; clear HA; simp only [impl_wordOf.l0] at H
   by_cases c2 : x4_1 < (a0.size : Int)
   ·rw [if_pos c2] at H; have c2b0 := decide_eq_true c2; clear c2; replace H := is_ H; obtain ⟨c3, H⟩ := H; have c3b0 := decide_eq_true c3; clear c3; replace H := Option.bind_eq_some_iff.mp H; obtain ⟨t1001, A50, H⟩ := H; replace H : (if t1001 = true then (impl_wordOf.l0 k1 a0 (wrap64 (x4_1 + 1))) else (if x4_1 ≤ (a0.size : Int) then (some (a0.extract 0 (x4_1 : Int).toNat, a0.extract (x4_1 : Int).toNat a0.size)) else (none))) = some (r1, r2) := H; have A5 := am_ A50; clear A50
    by_cases c6 : t1001 = true
    ·subst c6; replace H := it_ H; have H' := am_ H; clear H; have p4 : 0 ≤ (x4_1 : Int) := od_; have q4 : x4_1 < (a0.size : Int) := od_; have hx4 := bt_at a0 x4_1; replace p4 := eq_true p4; replace q4 := eq_true q4; go_wp2_with (first | (go_at_call 42; (with_reducible refine (impl_wordByte.calls (bt a0 x4_1) true _ A5.out).mono ?_); rintro e w' ⟨rfl, ⟨nd, rfl⟩⟩; (try exact dd_))); (repeat (go_quiet (first | (go_at_call 42; (with_reducible refine (impl_wordByte.calls (bt a0 x4_1) true _ A5.out).mono ?_); rintro e w' ⟨rfl, ⟨nd, rfl⟩⟩; (try exact dd_))); try go_wp2)); go_roundg k1
     case measure => have := HK1.out; omega
     case rel => exact ⟨(wrap64 (x4_1 + 1)), rs_, H', ⟨by have := HK1.out; omega⟩, by repeat (first | exact Drawn0.refl _ | apply Drawn0.step)⟩
    ·replace c6 := Bool.eq_false_iff.mpr c6; subst c6; replace H := if_ H; have c7b0 := eq_true (od_ : 0 ≤ x4_1); replace H := is_ H; obtain ⟨c8, H⟩ := H; have c8b0 := eq_true c8; have c8b1 := decide_eq_true c8; clear c8; have c9b0 := eq_true (od_ : 0 ≤ x4_1); have c10b0 := eq_true (od_ : x4_1 ≤ (a0.size : Int)); simp only [Option.some.injEq, Prod.mk.injEq] at H; obtain ⟨rfl, rfl⟩ := H; have p4 : 0 ≤ (x4_1 : Int) := od_; have q4 : x4_1 < (a0.size : Int) := od_; have hx4 := bt_at a0 x4_1; replace p4 := eq_true p4; replace q4 := eq_true q4; go_wp2_with (first | (go_at_call 42; (with_reducible refine (impl_wordByte.calls (bt a0 x4_1) false _ A5.out).mono ?_); rintro e w' ⟨rfl, ⟨nd, rfl⟩⟩; (try exact dd_))); (repeat (go_quiet (first | (go_at_call 42; (with_reducible refine (impl_wordByte.calls (bt a0 x4_1) false _ A5.out).mono ?_); rintro e w' ⟨rfl, ⟨nd, rfl⟩⟩; (try exact dd_))); try go_wp2)); go_ret2; exact ⟨by first | rfl | (simp; done) | (simp [*]; done), by repeat (first | exact Drawn0.refl _ | apply Drawn0.step)⟩
   ·rw [if_neg c2] at H; have c2b0 := decide_eq_false c2; clear c2; replace H := is_ H; obtain ⟨c11, H⟩ := H; have c11b0 := eq_true c11; have c11b1 := decide_eq_true c11; clear c11; replace H := is_ H; obtain ⟨c12, H⟩ := H; have c12b0 := eq_true c12; have c12b1 := decide_eq_true c12; clear c12; have c13b0 := eq_true (od_ : 0 ≤ x4_1); have c14b0 := eq_true (od_ : x4_1 ≤ (a0.size : Int)); simp only [Option.some.injEq, Prod.mk.injEq] at H; obtain ⟨rfl, rfl⟩ := H; go_wp2; (repeat (go_quiet (fail); try go_wp2)); go_ret2; exact ⟨by first | rfl | (simp; done) | (simp [*]; done), by repeat (first | exact Drawn0.refl _ | apply Drawn0.step)⟩

/-! ### impl_unquote: function 33 -/
mutual
def impl_unquote.j0 : Nat → ByteArray → Bool → Option (ByteArray × ByteArray × Bool)
 | 0, _, _ => none
 | k + 1, x0, x13 => if x13 = true then (some ((⟨#[]⟩ : ByteArray), (⟨#[]⟩ : ByteArray), false)) else (impl_unquote.l0 k x0 ([] : List Int) 1)
def impl_unquote.l0 : Nat → ByteArray → List Int → Int → Option (ByteArray × ByteArray × Bool)
 | 0, _, _, _ => none
 | k + 1, x0, x5, x6 => if x6 < (x0.size : Int) then (if 0 ≤ x6 then (if (bt x0 x6) = 34 then (if 0 ≤ (wrap64 (x6 + 1)) then (if (wrap64 (x6 + 1)) ≤ (x0.size : Int) then (some (strOfNums x5, x0.extract ((wrap64 (x6 + 1)) : Int).toNat x0.size, true)) else (none)) else (none)) else (if (bt x0 x6) = 92 then (if (wrap64 (x6 + 1)) = (x0.size : Int) then (some ((⟨#[]⟩ : ByteArray), (⟨#[]⟩ : ByteArray), false)) else (if 0 ≤ (wrap64 (x6 + 1)) then (if (wrap64 (x6 + 1)) < (x0.size : Int) then (if (bt x0 (wrap64 (x6 + 1))) = 34 then (if x5.length < 140737488355328 then (impl_unquote.l0 k x0 (x5 ++ [bt x0 (wrap64 (x6 + 1))]) (wrap64 ((wrap64 (x6 + 1)) + 1))) else (none)) else (if (bt x0 (wrap64 (x6 + 1))) = 92 then (if x5.length < 140737488355328 then (impl_unquote.l0 k x0 (x5 ++ [bt x0 (wrap64 (x6 + 1))]) (wrap64 ((wrap64 (x6 + 1)) + 1))) else (none)) else (some ((⟨#[]⟩ : ByteArray), (⟨#[]⟩ : ByteArray), false)))) else (none)) else (none))) else (if x5.length < 140737488355328 then (impl_unquote.l0 k x0 (x5 ++ [bt x0 x6]) (wrap64 (x6 + 1))) else (none)))) else (none)) else (some ((⟨#[]⟩ : ByteArray), (⟨#[]⟩ : ByteArray), false))
end
def impl_unquote.f (k : Nat) (a0 : ByteArray) : Option (ByteArray × ByteArray × Bool) := if a0.toList = ([] : List UInt8) then (impl_unquote.j0 k a0 true) else (if 0 < (a0.size : Int) then (impl_unquote.j0 k a0 ((bt a0 0) != 34)) else (none))
theorem impl_unquote.mono_l : ∀ k, (∀ y0 y1, LeO (impl_unquote.j0 k y0 y1) (impl_unquote.j0 (k + 1) y0 y1)) ∧ (∀ y0 y1 y2, LeO (impl_unquote.l0 k y0 y1 y2) (impl_unquote.l0 (k + 1) y0 y1 y2))
 | 0 => ⟨fun _ _ r h => by simp [impl_unquote.j0] at h, fun _ _ _ r h => by simp [impl_unquote.l0] at h⟩
 | k + 1 => by
  obtain ⟨ih0, ih1⟩ := impl_unquote.mono_l k
  refine ⟨?_, ?_⟩
  ·intro y0 y1
   unfold impl_unquote.j0
   repeat' with_reducible first | apply ih0 | apply ih1 | apply LeO.refl | apply LeO.none | apply LeO.ite | refine LeO.bind ?_ (fun _ => ?_)
  ·intro y0 y1 y2
   unfold impl_unquote.l0
   repeat' with_reducible first | apply ih0 | apply ih1 | apply LeO.refl | apply LeO.none | apply LeO.ite | refine LeO.bind ?_ (fun _ => ?_)
theorem impl_unquote.mono : ∀ a0 k, LeO (impl_unquote.f k a0) (impl_unquote.f (k + 1) a0) := by
 intro a0 k
 obtain ⟨ih0, ih1⟩ := impl_unquote.mono_l k
 unfold impl_unquote.f
 repeat' with_reducible first | apply ih0 | apply ih1 | apply LeO.refl | apply LeO.none | apply LeO.ite | refine LeO.bind ?_ (fun _ => ?_)
set_option maxHeartbeats 8000000 in
set_option maxRecDepth 100000 in
theorem impl_unquote.calls (k : Nat) (a0 : ByteArray) (r1 : ByteArray) (r2 : ByteArray) (r3 : Bool) (w : World) (h : impl_unquote.f k a0 = some (r1, r2, r3)) :
  Calls Tryd.prog 33 #[.string a0] w fun e w' => e = .returned (.tuple #[.string r1, .string r2, .bool r3]) ∧ Below w.heap.size w w' := by
 have HB := am_ (Below.refl w.heap.size w); have H : (if a0.toList = ([] : List UInt8) then (impl_unquote.j0 k a0 true) else (if 0 < (a0.size : Int) then (impl_unquote.j0 k a0 ((bt a0 0) != 34)) else (none))) = some (r1, r2, r3) := h; clear h; have HC2 := am_ H; clear H; go_enter Tryd.func33, Tryd.ntmps33; go_upto_region 1 with (fail); (repeat (go_quiet (fail); go_upto_region 1 with (fail)))
 go_cut [13] (fun v13 wc => ∃ (kq : Nat) (x13_1 : Bool), v13 = .bool x13_1 ∧ Aside0 (impl_unquote.j0 kq a0 x13_1 = some (r1, r2, r3)) ∧ Aside0 (kq ≤ k) ∧ Aside0 (Below w.heap.size w wc))
 case first =>
  have H := HC2.out; clear HC2
  by_cases c3 : a0.toList = ([] : List UInt8)
  ·rw [if_pos c3] at H; have c3b0 := eb_ c3; have c3b1 := en_ c3; clear c3; (first | rw [c3b0] | (simp only [i64_w, i32_w]; rw [c3b0]) | skip); have H' := am_ H; clear H; go_wp2; (repeat (go_quiet (fail); try go_wp2)); go_meet
   case rel => exact ⟨_, (true), rs_, H', ⟨by first | omega | exact Nat.le_refl _⟩, ⟨bl_⟩⟩
  ·rw [if_neg c3] at H; have c3b0 := nb_ c3; have c3b1 := nn_ c3; (first | rw [c3b0] | (simp only [i64_w, i32_w]; rw [c3b0]) | skip); replace H := is_ H; obtain ⟨c4, H⟩ := H; have c4b0 := decide_eq_true c4; have c4b1 : decide (0 < a0.size) = true := decide_eq_true (by omega); clear c4; have H' := am_ H; clear H; have p5 : 0 ≤ (0 : Int) := (by omega); have q5 : 0 < a0.size := (by have : (0 : Int) < (a0.size : Int) := od_; omega); have hx5 : ∀ h : 0 < a0.size, ((a0[0]'h).toNat : Int) = bt a0 0 := bt_at a0 0; clear p5; have qi5 : (0 < (a0.size : Int)) = True := eq_true (od_); replace q5 := eq_true q5; go_wp2; (repeat (go_quiet (fail); try go_wp2)); go_meet
   case rel => exact ⟨_, (((bt a0 0) != 34)), rs_, H', ⟨by first | omega | exact Nat.le_refl _⟩, ⟨bl_⟩⟩
 case rest =>
  clear HC2; obtain ⟨kq, x13_1, rfl, HA, HJ1, HB⟩ := hcut
  cases kq with
  | zero => exact absurd HA.out (by simp [impl_unquote.j0])
  | succ kj1 =>
   have H := HA.out; clear HA; simp only [impl_unquote.j0] at H
   by_cases c6 : x13_1 = true
   ·subst c6; replace H := it_ H; simp only [Option.some.injEq, Prod.mk.injEq] at H; obtain ⟨rfl, rfl, rfl⟩ := H; go_wp2; (repeat (go_quiet (fail); try go_wp2)); go_ret3; exact ⟨rf_, bl_⟩
   ·replace c6 := Bool.eq_false_iff.mpr c6; subst c6; replace H := if_ H; have H' := am_ H; clear H; go_wp2; (repeat (go_quiet (fail); try go_wp2))
    go_loopg [5, 6] kj1 (fun kq v5 v6 w' => ∃ (x5_2 : List Int) (x6_2 : Int), v6 = .int .i64 x6_2 ∧ Aside0 (impl_unquote.l0 kq a0 x5_2 x6_2 = some (r1, r2, r3)) ∧ Aside0 (kq ≤ kj1) ∧ Aside0 (Kd.R (Kd.int .u8) 5 w' w.heap.size (fun _ => True) v5 x5_2) ∧ Aside0 (Below w.heap.size w w'))
    case atStart => exact ⟨(([] : List Int)), (1), rs_, H', ⟨Nat.le_refl _⟩, ⟨ni_⟩, ⟨bl_⟩⟩
    case round =>
     clear H'; (try clear c6); obtain ⟨x5_2, x6_2, rfl, HA, HK2, HO_5, HB⟩ := hrel
     cases gk with
     | zero => exact absurd HA.out (by simp [impl_unquote.l0])
     | succ k2 =>
      have H := HA.out; clear HA; simp only [impl_unquote.l0] at H
      by_cases c7 : x6_2 < (a0.size : Int)
      ·rw [if_pos c7] at H; have c7b0 := decide_eq_true c7; clear c7; replace H := is_ H; obtain ⟨c8, H⟩ := H; have c8b0 := decide_eq_true c8; clear c8
       by_cases c10 : (bt a0 x6_2) = 34
       ·rw [if_pos c10] at H; have c10b0 := eb_ c10; have c10b1 := en_ c10; clear c10; obtain ⟨ji11, hji11⟩ : ∃ j_ : Int, (wrap64 (x6_2 + 1)) = j_ := ⟨_, rfl⟩; replace H : (if 0 ≤ (ji11) then (if (ji11) ≤ (a0.size : Int) then (some (strOfNums x5_2, a0.extract ((ji11) : Int).toNat a0.size, true)) else (none)) else (none)) = some (r1, r2, r3) := by first | (rw [hji11] at H; exact H) | (simp only [hji11] at H ⊢; exact H)
        have hji11w : (IntKind.i64.wrap (x6_2 + 1)) = ji11 := (i64_w _).trans hji11; replace H := is_ H; obtain ⟨c12, H⟩ := H; have c12b0 := eq_true c12; have c12b1 := decide_eq_true c12; clear c12; replace H := is_ H; obtain ⟨c13, H⟩ := H; have c13b0 := eq_true c13; have c13b1 := decide_eq_true c13; clear c13; simp only [Option.some.injEq, Prod.mk.injEq] at H; obtain ⟨rfl, rfl, rfl⟩ := H; have p9 : 0 ≤ (x6_2 : Int) := od_; have q9 : x6_2 < (a0.size : Int) := od_; have hx9 := bt_at a0 x6_2; replace p9 := eq_true p9; replace q9 := eq_true q9; have hcv14 := own_string (P := Tryd.prog) Tryd.underlying50 Tryd.underlying5 Tryd.underlying9 (Kd.own_of_R HO_5.out); have hcv14d := fun n_ : Nat => own_string (P := Tryd.prog) Tryd.underlying50 Tryd.underlying5 Tryd.underlying9 (Kd.own_of_R (Kd.R_drewN HO_5.out n_))
        have hcv14e := own_string (P := Tryd.prog) Tryd.underlying50 Tryd.underlying5 Tryd.underlying9 (Kd.own_of_R (Kd.R_drew HO_5.out)); go_wp2; (repeat (go_quiet (fail); try go_wp2)); go_ret3; exact ⟨by first | rfl | (simp [errW_none, errW_some] <;> rfl) | (simp only [← hji11]; first | rfl | (simp [errW_none, errW_some] <;> rfl)) | (simp [*, errW_none, errW_some] <;> rfl) | (simp [*, Go.Proofs.YtlibcibpflfboaaDoor.Gt.nil_bne]; done), bl_⟩
       ·rw [if_neg c10] at H; have c10b0 := nb_ c10; have c10b1 := nn_ c10
        by_cases c15 : (bt a0 x6_2) = 92
        ·rw [if_pos c15] at H; have c15b0 := eb_ c15; have c15b1 := en_ c15; clear c15
         by_cases c16 : (wrap64 (x6_2 + 1)) = (a0.size : Int)
         ·rw [if_pos c16] at H; have c16b0 := eb_ c16; have c16b1 := en_ c16; clear c16; simp only [Option.some.injEq, Prod.mk.injEq] at H; obtain ⟨rfl, rfl, rfl⟩ := H; have p9 : 0 ≤ (x6_2 : Int) := od_; have q9 : x6_2 < (a0.size : Int) := od_; have hx9 := bt_at a0 x6_2; replace p9 := eq_true p9; replace q9 := eq_true q9; go_wp2; (repeat (go_quiet (fail); try go_wp2)); go_ret3; exact ⟨rf_, bl_⟩
         ·rw [if_neg c16] at H; have c16b0 := nb_ c16; have c16b1 := nn_ c16; obtain ⟨ji17, hji17⟩ : ∃ j_ : Int, (wrap64 (x6_2 + 1)) = j_ := ⟨_, rfl⟩; replace H : (if 0 ≤ (ji17) then (if (ji17) < (a0.size : Int) then (if (bt a0 (ji17)) = 34 then (if x5_2.length < 140737488355328 then (impl_unquote.l0 k2 a0 (x5_2 ++ [bt a0 (ji17)]) (wrap64 ((ji17) + 1))) else (none)) else (if (bt a0 (ji17)) = 92 then (if x5_2.length < 140737488355328 then (impl_unquote.l0 k2 a0 (x5_2 ++ [bt a0 (ji17)]) (wrap64 ((ji17) + 1))) else (none)) else (some ((⟨#[]⟩ : ByteArray), (⟨#[]⟩ : ByteArray), false)))) else (none)) else (none)) = some (r1, r2, r3) := by first | (rw [hji17] at H; exact H) | (simp only [hji17] at H ⊢; exact H)
          (try rw [hji17] at c16b0); (try rw [hji17] at c16b1); have hji17w : (IntKind.i64.wrap (x6_2 + 1)) = ji17 := (i64_w _).trans hji17; replace H := is_ H; obtain ⟨c18, H⟩ := H; have c18b0 := decide_eq_true c18; clear c18; replace H := is_ H; obtain ⟨c19, H⟩ := H; have c19b0 := decide_eq_true c19; clear c19
          by_cases c21 : (bt a0 (ji17)) = 34
          ·rw [if_pos c21] at H; have c21b0 := eb_ c21; have c21b1 := en_ c21; clear c21; replace H := is_ H; obtain ⟨c23, H⟩ := H; have LMc23 := am_ c23; clear c23; obtain ⟨y1001, hy1001⟩ : ∃ y_ : List Int, y_ = (x5_2 ++ [bt a0 (ji17)]) := ⟨_, rfl⟩; replace H : (impl_unquote.l0 k2 a0 y1001 (wrap64 ((ji17) + 1))) = some (r1, r2, r3) := by first | (rw [hy1001]; with_reducible exact H) | (have H2_ := (Option.bind_some _ _).symm.trans H; rw [hy1001]; with_reducible exact H2_) | (have H2_ := (Option.bind_some _ _).symm.trans H; with_reducible exact H2_) | with_reducible exact H | (rw [hy1001]; exact H) | exact H
           have Ny1001 := am_ hy1001; clear hy1001; have H' := am_ H; clear H; have p9 : 0 ≤ (x6_2 : Int) := od_; have q9 : x6_2 < (a0.size : Int) := od_; have hx9 := bt_at a0 x6_2; replace p9 := eq_true p9; replace q9 := eq_true q9; have p20 : 0 ≤ ((ji17) : Int) := od_; have q20 : (ji17) < (a0.size : Int) := od_; have hx20 := bt_at a0 (ji17); replace p20 := eq_true p20; replace q20 := eq_true q20; have p22 : 0 ≤ ((ji17) : Int) := od_; have q22 : (ji17) < (a0.size : Int) := od_; have hx22 := bt_at a0 (ji17); replace p22 := eq_true p22; replace q22 := eq_true q22; go_wp2_with (first | ((with_reducible refine gate_builtin (b := .append) (xs := #[.tmp 51, .tmp 55]) rfl ?_); at_builtin; refine Kd.R_append (Kd.int .u8) (w0 := w) w.heap.size rfl (.tmp 51) (.tmp 55) 50 5 (.int .u8 0) 1 rfl Tryd.underlying50 info5 rfl (by decide) (by omega) u5 x5_2 (bt a0 (ji17)) [.int .u8 (bt a0 (ji17))] (fun _ => True) (fun _ => False) rfl rfl ?aP (fun _ hk => hk.elim) ?aF ?aO ?aB ?aS ?aL ?_; (case aP => exact rfl); (case aB => exact bl_); (case aF => exact (fun _ _ => trivial)); (case aO => exact (ro_ HO_5)); (case aS => exact (below_size bl_)); (case aL => have := LMc23.out; omega); intro v1002 w24 ho hb hg hat; rw [← Ny1001.out] at ho; have n0_ := am_ (hb); have n1_ := am_ (ho); clear HB; clear HO_5; have HB := n0_; have HO1003 := n1_; clear n0_ n1_; clear ho hb hg hat)); (repeat (go_quiet (first | ((with_reducible refine gate_builtin (b := .append) (xs := #[.tmp 51, .tmp 55]) rfl ?_); at_builtin; refine Kd.R_append (Kd.int .u8) (w0 := w) w.heap.size rfl (.tmp 51) (.tmp 55) 50 5 (.int .u8 0) 1 rfl Tryd.underlying50 info5 rfl (by decide) (by omega) u5 x5_2 (bt a0 (ji17)) [.int .u8 (bt a0 (ji17))] (fun _ => True) (fun _ => False) rfl rfl ?aP (fun _ hk => hk.elim) ?aF ?aO ?aB ?aS ?aL ?_; (case aP => exact rfl); (case aB => exact bl_); (case aF => exact (fun _ _ => trivial)); (case aO => exact (ro_ HO_5)); (case aS => exact (below_size bl_)); (case aL => have := LMc23.out; omega); intro v1002 w24 ho hb hg hat; rw [← Ny1001.out] at ho; have n0_ := am_ (hb); have n1_ := am_ (ho); clear HB; clear HO_5; have HB := n0_; have HO1003 := n1_; clear n0_ n1_; clear ho hb hg hat)); try go_wp2)); go_roundg k2
           case measure => have := HJ1.out; have := HK2.out; omega
           case rel => exact ⟨(y1001), (wrap64 ((ji17) + 1)), (by first | rfl | (simp; done) | (simp only [← hji17] <;> (first | rfl | simp)) | (simp [*]; done)), (by first | exact H' | (simp only [hji17]; exact H') | (rw [hji17]; exact H')), ⟨by have := HJ1.out; have := HK2.out; omega⟩, ⟨ro_ HO1003⟩, ⟨bl_⟩⟩
          ·rw [if_neg c21] at H; have c21b0 := nb_ c21; have c21b1 := nn_ c21
           by_cases c26 : (bt a0 (ji17)) = 92
           ·rw [if_pos c26] at H; have c26b0 := eb_ c26; have c26b1 := en_ c26; clear c26; replace H := is_ H; obtain ⟨c28, H⟩ := H; have LMc28 := am_ c28; clear c28; obtain ⟨y1004, hy1004⟩ : ∃ y_ : List Int, y_ = (x5_2 ++ [bt a0 (ji17)]) := ⟨_, rfl⟩; replace H : (impl_unquote.l0 k2 a0 y1004 (wrap64 ((ji17) + 1))) = some (r1, r2, r3) := by first | (rw [hy1004]; with_reducible exact H) | (have H2_ := (Option.bind_some _ _).symm.trans H; rw [hy1004]; with_reducible exact H2_) | (have H2_ := (Option.bind_some _ _).symm.trans H; with_reducible exact H2_) | with_reducible exact H | (rw [hy1004]; exact H) | exact H
            have Ny1004 := am_ hy1004; clear hy1004; have H' := am_ H; clear H; have p9 : 0 ≤ (x6_2 : Int) := od_; have q9 : x6_2 < (a0.size : Int) := od_; have hx9 := bt_at a0 x6_2; replace p9 := eq_true p9; replace q9 := eq_true q9; have p20 : 0 ≤ ((ji17) : Int) := od_; have q20 : (ji17) < (a0.size : Int) := od_; have hx20 := bt_at a0 (ji17); replace p20 := eq_true p20; replace q20 := eq_true q20; have p25 : 0 ≤ ((ji17) : Int) := od_; have q25 : (ji17) < (a0.size : Int) := od_; have hx25 := bt_at a0 (ji17); replace p25 := eq_true p25; replace q25 := eq_true q25; have p27 : 0 ≤ ((ji17) : Int) := od_; have q27 : (ji17) < (a0.size : Int) := od_; have hx27 := bt_at a0 (ji17); replace p27 := eq_true p27; replace q27 := eq_true q27; go_wp2_with (first | ((with_reducible refine gate_builtin (b := .append) (xs := #[.tmp 51, .tmp 55]) rfl ?_); at_builtin; refine Kd.R_append (Kd.int .u8) (w0 := w) w.heap.size rfl (.tmp 51) (.tmp 55) 50 5 (.int .u8 0) 1 rfl Tryd.underlying50 info5 rfl (by decide) (by omega) u5 x5_2 (bt a0 (ji17)) [.int .u8 (bt a0 (ji17))] (fun _ => True) (fun _ => False) rfl rfl ?aP (fun _ hk => hk.elim) ?aF ?aO ?aB ?aS ?aL ?_; (case aP => exact rfl); (case aB => exact bl_); (case aF => exact (fun _ _ => trivial)); (case aO => exact (ro_ HO_5)); (case aS => exact (below_size bl_)); (case aL => have := LMc28.out; omega); intro v1005 w29 ho hb hg hat; rw [← Ny1004.out] at ho; have n0_ := am_ (hb); have n1_ := am_ (ho); clear HB; clear HO_5; have HB := n0_; have HO1006 := n1_; clear n0_ n1_; clear ho hb hg hat)); (repeat (go_quiet (first | ((with_reducible refine gate_builtin (b := .append) (xs := #[.tmp 51, .tmp 55]) rfl ?_); at_builtin; refine Kd.R_append (Kd.int .u8) (w0 := w) w.heap.size rfl (.tmp 51) (.tmp 55) 50 5 (.int .u8 0) 1 rfl Tryd.underlying50 info5 rfl (by decide) (by omega) u5 x5_2 (bt a0 (ji17)) [.int .u8 (bt a0 (ji17))] (fun _ => True) (fun _ => False) rfl rfl ?aP (fun _ hk => hk.elim) ?aF ?aO ?aB ?aS ?aL ?_; (case aP => exact rfl); (case aB => exact bl_); (case aF => exact (fun _ _ => trivial)); (case aO => exact (ro_ HO_5)); (case aS => exact (below_size bl_)); (case aL => have := LMc28.out; omega); intro v1005 w29 ho hb hg hat; rw [← Ny1004.out] at ho; have n0_ := am_ (hb); have n1_ := am_ (ho); clear HB; clear HO_5; have HB := n0_; have HO1006 := n1_; clear n0_ n1_; clear ho hb hg hat)); try go_wp2)); go_roundg k2
            case measure => have := HJ1.out; have := HK2.out; omega
            case rel => exact ⟨(y1004), (wrap64 ((ji17) + 1)), (by first | rfl | (simp; done) | (simp only [← hji17] <;> (first | rfl | simp)) | (simp [*]; done)), (by first | exact H' | (simp only [hji17]; exact H') | (rw [hji17]; exact H')), ⟨by have := HJ1.out; have := HK2.out; omega⟩, ⟨ro_ HO1006⟩, ⟨bl_⟩⟩
           ·rw [if_neg c26] at H; have c26b0 := nb_ c26; have c26b1 := nn_ c26; simp only [Option.some.injEq, Prod.mk.injEq] at H; obtain ⟨rfl, rfl, rfl⟩ := H; have p9 : 0 ≤ (x6_2 : Int) := od_; have q9 : x6_2 < (a0.size : Int) := od_; have hx9 := bt_at a0 x6_2; replace p9 := eq_true p9; replace q9 := eq_true q9; have p20 : 0 ≤ ((ji17) : Int) := od_; have q20 : (ji17) < (a0.size : Int) := od_; have hx20 := bt_at a0 (ji17); replace p20 := eq_true p20; replace q20 := eq_true q20; have p25 : 0 ≤ ((ji17) : Int) := od_; have q25 : (ji17) < (a0.size : Int) := od_; have hx25 := bt_at a0 (ji17); replace p25 := eq_true p25; replace q25 := eq_true q25; go_wp2; (repeat (go_quiet (fail); try go_wp2)); go_ret3; exact ⟨by first | rfl | (simp [errW_none, errW_some] <;> rfl) | (simp only [← hji17]; first | rfl | (simp [errW_none, errW_some] <;> rfl)) | (simp [*, errW_none, errW_some] <;> rfl) | (simp [*, Go.Proofs.YtlibcibpflfboaaDoor.Gt.nil_bne]; done), bl_⟩
        ·rw [if_neg c15] at H; have c15b0 := nb_ c15; have c15b1 := nn_ c15; replace H := is_ H; obtain ⟨c31, H⟩ := H; have LMc31 := am_ c31; clear c31; obtain ⟨y1007, hy1007⟩ : ∃ y_ : List Int, y_ = (x5_2 ++ [bt a0 x6_2]) := ⟨_, rfl⟩; replace H : (impl_unquote.l0 k2 a0 y1007 (wrap64 (x6_2 + 1))) = some (r1, r2, r3) := by first | (rw [hy1007]; with_reducible exact H) | (have H2_ := (Option.bind_some _ _).symm.trans H; rw [hy1007]; with_reducible exact H2_) | (have H2_ := (Option.bind_some _ _).symm.trans H; with_reducible exact H2_) | with_reducible exact H | (rw [hy1007]; exact H) | exact H
         have Ny1007 := am_ hy1007; clear hy1007; have H' := am_ H; clear H; have p9 : 0 ≤ (x6_2 : Int) := od_; have q9 : x6_2 < (a0.size : Int) := od_; have hx9 := bt_at a0 x6_2; replace p9 := eq_true p9; replace q9 := eq_true q9; have p30 : 0 ≤ (x6_2 : Int) := od_; have q30 : x6_2 < (a0.size : Int) := od_; have hx30 := bt_at a0 x6_2; replace p30 := eq_true p30; replace q30 := eq_true q30; go_wp2_with (first | ((with_reducible refine gate_builtin (b := .append) (xs := #[.tmp 51, .tmp 55]) rfl ?_); at_builtin; refine Kd.R_append (Kd.int .u8) (w0 := w) w.heap.size rfl (.tmp 51) (.tmp 55) 50 5 (.int .u8 0) 1 rfl Tryd.underlying50 info5 rfl (by decide) (by omega) u5 x5_2 (bt a0 x6_2) [.int .u8 (bt a0 x6_2)] (fun _ => True) (fun _ => False) rfl rfl ?aP (fun _ hk => hk.elim) ?aF ?aO ?aB ?aS ?aL ?_; (case aP => exact rfl); (case aB => exact bl_); (case aF => exact (fun _ _ => trivial)); (case aO => exact (ro_ HO_5)); (case aS => exact (below_size bl_)); (case aL => have := LMc31.out; omega); intro v1008 w32 ho hb hg hat; rw [← Ny1007.out] at ho; have n0_ := am_ (hb); have n1_ := am_ (ho); clear HB; clear HO_5; have HB := n0_; have HO1009 := n1_; clear n0_ n1_; clear ho hb hg hat)); (repeat (go_quiet (first | ((with_reducible refine gate_builtin (b := .append) (xs := #[.tmp 51, .tmp 55]) rfl ?_); at_builtin; refine Kd.R_append (Kd.int .u8) (w0 := w) w.heap.size rfl (.tmp 51) (.tmp 55) 50 5 (.int .u8 0) 1 rfl Tryd.underlying50 info5 rfl (by decide) (by omega) u5 x5_2 (bt a0 x6_2) [.int .u8 (bt a0 x6_2)] (fun _ => True) (fun _ => False) rfl rfl ?aP (fun _ hk => hk.elim) ?aF ?aO ?aB ?aS ?aL ?_; (case aP => exact rfl); (case aB => exact bl_); (case aF => exact (fun _ _ => trivial)); (case aO => exact (ro_ HO_5)); (case aS => exact (below_size bl_)); (case aL => have := LMc31.out; omega); intro v1008 w32 ho hb hg hat; rw [← Ny1007.out] at ho; have n0_ := am_ (hb); have n1_ := am_ (ho); clear HB; clear HO_5; have HB := n0_; have HO1009 := n1_; clear n0_ n1_; clear ho hb hg hat)); try go_wp2)); go_roundg k2
         case measure => have := HJ1.out; have := HK2.out; omega
         case rel => exact ⟨(y1007), (wrap64 (x6_2 + 1)), rs_, H', ⟨by have := HJ1.out; have := HK2.out; omega⟩, ⟨ro_ HO1009⟩, ⟨bl_⟩⟩
      ·rw [if_neg c7] at H; have c7b0 := decide_eq_false c7; clear c7; simp only [Option.some.injEq, Prod.mk.injEq] at H; obtain ⟨rfl, rfl, rfl⟩ := H; go_wp2; (repeat (go_quiet (fail); try go_wp2)); go_ret3; exact ⟨rf_, bl_⟩

/-! ### impl_isName: function 43 -/
mutual
def impl_isName.j0 : Nat → ByteArray → Bool → Option (Bool)
 | 0, _, _ => none
 | k + 1, x0, x15 => if x15 = true then (some false) else (impl_isName.l0 k x0 (x0.size : Int) 0)
def impl_isName.l0 : Nat → ByteArray → Int → Int → Option (Bool)
 | 0, _, _, _ => none
 | k + 1, x0, x17, x18 => if x18 < x17 then (if 0 ≤ x18 then (if x18 < (x0.size : Int) then ((impl_wordByte.f (bt x0 x18)).bind fun t1002 => (if t1002 = true then (impl_isName.l0 k x0 x17 (wrap64 (x18 + 1))) else (some false))) else (none)) else (none)) else (some true)
end
def impl_isName.f (k : Nat) (a0 : ByteArray) : Option (Bool) := if a0.toList = ([] : List UInt8) then (impl_isName.j0 k a0 true) else (if (a0.size : Int) > 40 then (impl_isName.j0 k a0 true) else (if 0 < (a0.size : Int) then ((impl_digitByte.f (bt a0 0)).bind fun t1001 => (impl_isName.j0 k a0 t1001)) else (none)))
theorem impl_isName.mono_l : ∀ k, (∀ y0 y1, LeO (impl_isName.j0 k y0 y1) (impl_isName.j0 (k + 1) y0 y1)) ∧ (∀ y0 y1 y2, LeO (impl_isName.l0 k y0 y1 y2) (impl_isName.l0 (k + 1) y0 y1 y2))
 | 0 => ⟨fun _ _ r h => by simp [impl_isName.j0] at h, fun _ _ _ r h => by simp [impl_isName.l0] at h⟩
 | k + 1 => by
  obtain ⟨ih0, ih1⟩ := impl_isName.mono_l k
  refine ⟨?_, ?_⟩
  ·intro y0 y1
   unfold impl_isName.j0
   repeat' with_reducible first | apply ih0 | apply ih1 | apply LeO.refl | apply LeO.none | apply LeO.ite | refine LeO.bind ?_ (fun _ => ?_)
  ·intro y0 y1 y2
   unfold impl_isName.l0
   repeat' with_reducible first | apply ih0 | apply ih1 | apply LeO.refl | apply LeO.none | apply LeO.ite | refine LeO.bind ?_ (fun _ => ?_)
theorem impl_isName.mono : ∀ a0 k, LeO (impl_isName.f k a0) (impl_isName.f (k + 1) a0) := by
 intro a0 k
 obtain ⟨ih0, ih1⟩ := impl_isName.mono_l k
 unfold impl_isName.f
 repeat' with_reducible first | apply ih0 | apply ih1 | apply LeO.refl | apply LeO.none | apply LeO.ite | refine LeO.bind ?_ (fun _ => ?_)
set_option maxHeartbeats 8000000 in
set_option maxRecDepth 100000 in
theorem impl_isName.calls (k : Nat) (a0 : ByteArray) (r : Bool) (w : World) (h : impl_isName.f k a0 = some r) :
  Calls Tryd.prog 43 #[.string a0] w fun e w' => e = .returned (.bool r) ∧ Drawn0 w w' := by
 have H := h; clear h; unfold impl_isName.f at H; have HC2 := am_ H; clear H; go_enter Tryd.func43, Tryd.ntmps43; go_upto_region 1 with (fail)
 go_cut [15] (fun v15 wc => ∃ (kq : Nat) (x15_1 : Bool), v15 = .bool x15_1 ∧ Aside0 (impl_isName.j0 kq a0 x15_1 = some r) ∧ Aside0 (kq ≤ k) ∧ Drawn0 w wc)
 case first =>
  have H := HC2.out; clear HC2
  by_cases c3 : a0.toList = ([] : List UInt8)
  ·rw [if_pos c3] at H; have c3b0 := eb_ c3; have c3b1 := en_ c3; clear c3; (first | rw [c3b0] | (simp only [i64_w, i32_w]; rw [c3b0]) | skip); have H' := am_ H; clear H; go_wp2; go_meet
   case rel => exact ⟨_, (true), rs_, H', ⟨by first | omega | exact Nat.le_refl _⟩, by repeat (first | exact Drawn0.refl _ | apply Drawn0.step)⟩
  ·rw [if_neg c3] at H; have c3b0 := nb_ c3; have c3b1 := nn_ c3; (first | rw [c3b0] | (simp only [i64_w, i32_w]; rw [c3b0]) | skip)
   by_cases c4 : (a0.size : Int) > 40
   ·rw [if_pos c4] at H; have c4b0 := dg_ c4; have c4b1 : decide (40 < a0.size) = true := decide_eq_true (by omega); clear c4; have H' := am_ H; clear H; go_wp2; go_meet
    case rel => exact ⟨_, (true), rs_, H', ⟨by first | omega | exact Nat.le_refl _⟩, by repeat (first | exact Drawn0.refl _ | apply Drawn0.step)⟩
   ·rw [if_neg c4] at H; have c4b0 := df_ c4; have c4b1 : decide (40 < a0.size) = false := decide_eq_false (by omega); clear c4; replace H := is_ H; obtain ⟨c5, H⟩ := H; have c5b0 := decide_eq_true c5; have c5b1 : decide (0 < a0.size) = true := decide_eq_true (by omega); clear c5; replace H := bs_ H; obtain ⟨t1001, A7, H⟩ := H; have H' := am_ H; clear H; have p6 : 0 ≤ (0 : Int) := (by omega); have q6 : 0 < a0.size := (by have : (0 : Int) < (a0.size : Int) := od_; omega); have hx6 : ∀ h : 0 < a0.size, ((a0[0]'h).toNat : Int) = bt a0 0 := bt_at a0 0; clear p6; have qi6 : (0 < (a0.size : Int)) = True := eq_true (od_); replace q6 := eq_true q6; go_wp2_with (first | (go_at_call 50; (with_reducible refine (impl_digitByte.calls (bt a0 0) t1001 _ A7.out).mono ?_); rintro e w' ⟨rfl, ⟨nd, rfl⟩⟩)); go_meet
    case rel => exact ⟨_, (t1001), rs_, H', ⟨by first | omega | exact Nat.le_refl _⟩, by repeat (first | exact Drawn0.refl _ | apply Drawn0.step)⟩
 case rest =>
  clear HC2; obtain ⟨kq, x15_1, rfl, HA, HJ1, ⟨mc1, rfl⟩⟩ := hcut
  cases kq with
  | zero => exact absurd HA.out (by simp [impl_isName.j0])
  | succ kj1 =>
   have H := HA.out; clear HA; simp only [impl_isName.j0] at H
   by_cases c8 : x15_1 = true
   ·subst c8; replace H := it_ H; obtain rfl := si_ H; go_wp2; go_ret; exact ⟨by first | rfl | (simp; done) | (simp [*]; done), by repeat (first | exact Drawn0.refl _ | apply Drawn0.step)⟩
   ·replace c8 := Bool.eq_false_iff.mpr c8; subst c8; replace H := if_ H; have H' := am_ H; clear H; go_wp2
    go_loopg [18] kj1 (fun kq v18 w' => ∃ (x18_2 : Int), v18 = .int .i64 x18_2 ∧ Aside0 (impl_isName.l0 kq a0 (a0.size : Int) x18_2 = some r) ∧ Aside0 (kq ≤ kj1) ∧ Drawn0 w w')
    case atStart => exact ⟨(0), rs_, H', ⟨Nat.le_refl _⟩, by repeat (first | exact Drawn0.refl _ | apply Drawn0.step)⟩
    case round =>
     clear H'; (try clear c8); obtain ⟨x18_2, rfl, HA, HK2, ⟨m2, rfl⟩⟩ := hrel
     cases gk with
     | zero => exact absurd HA.out (by simp [impl_isName.l0])
     | succ k2 =>
      have H := HA.out; clear HA; simp only [impl_isName.l0] at H
      by_cases c9 : x18_2 < (a0.size : Int)
      ·rw [if_pos c9] at H; have c9b0 := decide_eq_true c9; clear c9; replace H := is_ H; obtain ⟨c10, H⟩ := H; have c10b0 := decide_eq_true c10; clear c10; replace H := is_ H; obtain ⟨c11, H⟩ := H; have c11b0 := decide_eq_true c11; clear c11; replace H := bs_ H; obtain ⟨t1002, A13, H⟩ := H
       by_cases c14 : t1002 = true
       ·subst c14; replace H := it_ H; have H' := am_ H; clear H; have p12 : 0 ≤ (x18_2 : Int) := od_; have q12 : x18_2 < (a0.size : Int) := od_; have hx12 := bt_at a0 x18_2; replace p12 := eq_true p12; replace q12 := eq_true q12; go_wp2_with (first | ((with_reducible refine gate_callee (f := 42) rfl ?_); refine gl_ 24 Tryd.func42 #[.int .u8 (bt a0 x18_2)] ?_; (with_reducible refine (impl_wordByte.calls (bt a0 x18_2) true _ A13.out).mono ?_); rintro e w' ⟨rfl, ⟨nd, rfl⟩⟩; refine ⟨_, rfl, ?_⟩)); go_roundg k2
        case measure => have := HJ1.out; have := HK2.out; omega
        case rel => exact ⟨(wrap64 (x18_2 + 1)), rs_, H', ⟨by have := HJ1.out; have := HK2.out; omega⟩, by repeat (first | exact Drawn0.refl _ | apply Drawn0.step)⟩
       ·replace c14 := Bool.eq_false_iff.mpr c14; subst c14; replace H := if_ H; obtain rfl := si_ H; have p12 : 0 ≤ (x18_2 : Int) := od_; have q12 : x18_2 < (a0.size : Int) := od_; have hx12 := bt_at a0 x18_2; replace p12 := eq_true p12; replace q12 := eq_true q12; go_wp2_with (first | ((with_reducible refine gate_callee (f := 42) rfl ?_); refine gl_ 24 Tryd.func42 #[.int .u8 (bt a0 x18_2)] ?_; (with_reducible refine (impl_wordByte.calls (bt a0 x18_2) false _ A13.out).mono ?_); rintro e w' ⟨rfl, ⟨nd, rfl⟩⟩; refine ⟨_, rfl, ?_⟩)); go_ret; exact ⟨by first | rfl | (simp; done) | (simp [*]; done), by repeat (first | exact Drawn0.refl _ | apply Drawn0.step)⟩
      ·rw [if_neg c9] at H; have c9b0 := decide_eq_false c9; clear c9; obtain rfl := si_ H; go_wp2; go_ret; exact ⟨by first | rfl | (simp; done) | (simp [*]; done), by repeat (first | exact Drawn0.refl _ | apply Drawn0.step)⟩

/-! ### impl_printed: function 44 -/
def impl_printed.l0 : Nat → ByteArray → Int → Int → Option (Bool)
 | 0, _, _, _ => none
 | k + 1, x0, x11, x12 => if x12 < x11 then (if 0 ≤ x12 then (if x12 < (x0.size : Int) then (if (bt x0 x12) < 32 then (some false) else (if (bt x0 x12) > 126 then (some false) else (impl_printed.l0 k x0 x11 (wrap64 (x12 + 1))))) else (none)) else (none)) else (some true)
def impl_printed.f (k : Nat) (a0 : ByteArray) (a1 : Int) : Option (Bool) := if (a0.size : Int) > a1 then (some false) else (impl_printed.l0 k a0 (a0.size : Int) 0)
theorem impl_printed.mono_l : ∀ k, (∀ y0 y1 y2, LeO (impl_printed.l0 k y0 y1 y2) (impl_printed.l0 (k + 1) y0 y1 y2))
 | 0 => fun _ _ _ r h => by simp [impl_printed.l0] at h
 | k + 1 => by
  have ih0 := impl_printed.mono_l k
  ·intro y0 y1 y2
   unfold impl_printed.l0
   repeat' with_reducible first | apply ih0 | apply LeO.refl | apply LeO.none | apply LeO.ite | refine LeO.bind ?_ (fun _ => ?_)
theorem impl_printed.mono : ∀ a0 a1 k, LeO (impl_printed.f k a0 a1) (impl_printed.f (k + 1) a0 a1) := by
 intro a0 a1 k
 have ih0 := impl_printed.mono_l k
 unfold impl_printed.f
 repeat' with_reducible first | apply ih0 | apply LeO.refl | apply LeO.none | apply LeO.ite | refine LeO.bind ?_ (fun _ => ?_)
set_option maxHeartbeats 8000000 in
set_option maxRecDepth 100000 in
theorem impl_printed.calls (k : Nat) (a0 : ByteArray) (a1 : Int) (r : Bool) (w : World) (h : impl_printed.f k a0 a1 = some r) :
  Calls Tryd.prog 44 #[.string a0, .int .i64 a1] w fun e w' => e = .returned (.bool r) ∧ Drawn0 w w' := by
 have H := h; clear h; unfold impl_printed.f at H
 by_cases c3 : (a0.size : Int) > a1
 ·rw [if_pos c3] at H; have c3b0 := dg_ c3; clear c3; obtain rfl := si_ H; go_enter Tryd.func44, Tryd.ntmps44; go_wp2; go_ret; exact ⟨by first | rfl | (simp; done) | (simp [*]; done), by repeat (first | exact Drawn0.refl _ | apply Drawn0.step)⟩
 ·rw [if_neg c3] at H; have c3b0 := df_ c3; clear c3; have H' := am_ H; clear H; go_enter Tryd.func44, Tryd.ntmps44; go_wp2
  go_loopg [12] k (fun kq v12 w' => ∃ (x12_1 : Int), v12 = .int .i64 x12_1 ∧ Aside0 (impl_printed.l0 kq a0 (a0.size : Int) x12_1 = some r) ∧ Aside0 (kq ≤ k) ∧ Drawn0 w w')
  case atStart => exact ⟨(0), rs_, H', ⟨Nat.le_refl _⟩, by repeat (first | exact Drawn0.refl _ | apply Drawn0.step)⟩
  case round =>
   clear H'; (try clear c3); (try clear c3b0); obtain ⟨x12_1, rfl, HA, HK1, ⟨m1, rfl⟩⟩ := hrel
   cases gk with
   | zero => exact absurd HA.out (by simp [impl_printed.l0])
   | succ k1 =>
    have H := HA.out; clear HA; simp only [impl_printed.l0] at H
    by_cases c4 : x12_1 < (a0.size : Int)
    ·rw [if_pos c4] at H; have c4b0 := decide_eq_true c4; clear c4; replace H := is_ H; obtain ⟨c5, H⟩ := H; have c5b0 := decide_eq_true c5; clear c5; replace H := is_ H; obtain ⟨c6, H⟩ := H; have c6b0 := decide_eq_true c6; clear c6
     by_cases c8 : (bt a0 x12_1) < 32
     ·rw [if_pos c8] at H; have c8b0 := decide_eq_true c8; clear c8; obtain rfl := si_ H; have p7 : 0 ≤ (x12_1 : Int) := od_; have q7 : x12_1 < (a0.size : Int) := od_; have hx7 := bt_at a0 x12_1; replace p7 := eq_true p7; replace q7 := eq_true q7; go_wp2; go_ret; exact ⟨by first | rfl | (simp; done) | (simp [*]; done), by repeat (first | exact Drawn0.refl _ | apply Drawn0.step)⟩
     ·rw [if_neg c8] at H; have c8b0 := decide_eq_false c8; clear c8
      by_cases c10 : (bt a0 x12_1) > 126
      ·rw [if_pos c10] at H; have c10b0 := dg_ c10; clear c10; obtain rfl := si_ H; have p7 : 0 ≤ (x12_1 : Int) := od_; have q7 : x12_1 < (a0.size : Int) := od_; have hx7 := bt_at a0 x12_1; replace p7 := eq_true p7; replace q7 := eq_true q7; have p9 : 0 ≤ (x12_1 : Int) := od_; have q9 : x12_1 < (a0.size : Int) := od_; have hx9 := bt_at a0 x12_1; replace p9 := eq_true p9; replace q9 := eq_true q9; go_wp2; go_ret; exact ⟨by first | rfl | (simp; done) | (simp [*]; done), by repeat (first | exact Drawn0.refl _ | apply Drawn0.step)⟩
      ·rw [if_neg c10] at H; have c10b0 := df_ c10; clear c10; have H' := am_ H; clear H; have p7 : 0 ≤ (x12_1 : Int) := od_; have q7 : x12_1 < (a0.size : Int) := od_; have hx7 := bt_at a0 x12_1; replace p7 := eq_true p7; replace q7 := eq_true q7; have p9 : 0 ≤ (x12_1 : Int) := od_; have q9 : x12_1 < (a0.size : Int) := od_; have hx9 := bt_at a0 x12_1; replace p9 := eq_true p9; replace q9 := eq_true q9; go_wp2; go_roundg k1
       case measure => have := HK1.out; omega
       case rel => exact ⟨(wrap64 (x12_1 + 1)), rs_, H', ⟨by have := HK1.out; omega⟩, by repeat (first | exact Drawn0.refl _ | apply Drawn0.step)⟩
    ·rw [if_neg c4] at H; have c4b0 := decide_eq_false c4; clear c4; obtain rfl := si_ H; go_wp2; go_ret; exact ⟨by first | rfl | (simp; done) | (simp [*]; done), by repeat (first | exact Drawn0.refl _ | apply Drawn0.step)⟩

/-! ### strings_IndexByte: function 55 -/
def strings_IndexByte.f (a0 : ByteArray) (a1 : Int) : Option (Int) := some (Lib.indexByte a0.data.toList a1.toNat.toUInt8)
theorem strings_IndexByte.calls (a0 : ByteArray) (a1 : Int) (r : Int) (w : World) (h : strings_IndexByte.f a0 a1 = some r) :
  Calls Tryd.prog 55 #[.string a0, .int .u8 a1] w fun e w' => e = .returned (.int .i64 r) ∧ Drawn0 w w' := by
 obtain rfl := Option.some.inj h
 exact (Tryd.strings_IndexByte a0 a1 w).mono (fun e w' hp => ⟨hp.1, by rw [hp.2]; exact Drawn0.refl _⟩)

/-! ### impl_alternatives: function 51 -/
/-- Rows whose heads lie in a row: each read, none of them in a block that is not ok. -/
def Rows {α : Type} (d : Kd α) (e : Nat) (w : World) (base : Nat) (ok : Nat → Prop) (xs : List (Option Addr × Nat × Nat)) (o : List (List α)) : Prop := ∃ f : Nat → Nat, ∀ (j : Nat) (l : List α), o[j]? = some l → ∃ A c, xs[j]? = some (A, l.length, c) ∧ Kd.R d e w base (fun k => ok k ∧ f k = j) (.slice A l.length c) l
section
variable {α : Type} {d : Kd α} {e eo base g n c : Nat} {w w1 : World} {ok ok' : Nat → Prop} {xs xs' : List (Option Addr × Nat × Nat)} {o : List (List α)}
theorem rows_nil (d : Kd α) (e : Nat) (w : World) (base : Nat) (ok : Nat → Prop) (xs : List (Option Addr × Nat × Nat)) : Rows d e w base ok xs ([] : List (List α)) := ⟨fun _ => 0, fun j l h => by simp at h⟩
theorem rows_step (h : Rows d e w base ok xs o) (hm : ∀ k, ok k → k < w.heap.size → w1.heap[k]? = w.heap[k]?) (hok : ∀ k, ok k → k < w.heap.size → ok' k) (hx : ∀ j, j < o.length → xs'[j]? = xs[j]?) : Rows d e w1 base ok' xs' o := by
  obtain ⟨f, h⟩ := h
  refine ⟨f, fun j l hj => ?_⟩
  obtain ⟨A, c, h1, h2⟩ := h j l hj
  exact ⟨A, c, (hx j (List.getElem?_eq_some_iff.1 hj).1).trans h1, Kd.R_mono (Kd.R_move (Kd.R_bound h2) (fun k hk => hm k hk.1.1 hk.2.2.1)) (fun k hk => ⟨hok k hk.1.1 hk.2.2.1, hk.1.2⟩)⟩
theorem rows_below (h : Rows d e w base ok xs o) (hb : Below w.heap.size w w1) : Rows d e w1 base ok xs o := rows_step h (fun k _ hk => hb.block k hk) (fun _ hk _ => hk) (fun _ _ => rfl)
theorem rows_alloc (h : Rows d e w base ok xs o) (x : Obj) : Rows d e (w.alloc x) base ok xs o := rows_below h (below_alloc (Below.refl _ _) x)
theorem rows_drew (h : Rows d e w base ok xs o) : Rows d e w.drew base ok xs o := rows_below h (below_drew (Below.refl _ _))
theorem rows_drewN (h : Rows d e w base ok xs o) (m : Nat) : Rows d e (w.drewN m) base ok xs o := rows_below h (pw_below_drewN (Below.refl _ _) m)
theorem rq_ {p q : Prop} (H : Aside0 p) (h : p → q := by (intro hv_; (with_reducible repeat (first | apply rows_alloc | apply rows_drewN | apply rows_drew)); exact hv_)) : q := h H.out
theorem rows_snoc {A : Option Addr} {l : List α} {m : Nat} (hE : d.E = []) (h : Rows d e w base (fun k => ok k ∧ some k ≠ (.slice A m c : Value).ownBlock) xs o) (hl : xs[o.length]? = some (A, m, c)) (hm : l.length = m) (hr : Kd.R d e w base ok (.slice A m c) l) : Rows d e w base ok xs (o ++ [l]) := by
  subst hm
  obtain ⟨f, h⟩ := h
  refine ⟨fun k => if some k = (.slice A l.length c : Value).ownBlock then o.length else f k, fun j q hj => ?_⟩
  rcases Nat.lt_or_ge j o.length with hlt | hge
  · rw [List.getElem?_append_left hlt] at hj
    obtain ⟨A', c', h1, h2⟩ := h j q hj
    exact ⟨A', c', h1, Kd.R_mono h2 (fun k hk => ⟨hk.1.1, (if_neg hk.1.2).trans hk.2⟩)⟩
  · have : j = o.length := by
      have := (List.getElem?_eq_some_iff.1 hj).1
      rw [List.length_append, List.length_singleton] at this
      omega
    subst this
    obtain rfl : l = q := by simpa using hj
    exact ⟨A, c, hl, Kd.R_mono (Kd.R_tight hE hr) (fun k hk => ⟨hr.1 k hk.symm, if_pos hk⟩)⟩
theorem rows_R (h : Rows d e w base (fun k => k ≠ g) xs o) (hlen : o.length = xs.length) (hO : Kd.R kcut eo w base ok (.slice (some ⟨g, 0, none⟩) n c) xs) : Kd.S (Kd.slice e d) eo w base (fun _ => True) (.slice (some ⟨g, 0, none⟩) n c) o := by
  have own := Kd.own_of_R (enc := fun x : Option Addr × Nat × Nat => .slice x.1 x.2.1 x.2.2) (h1 := fun _ => rfl) hO
  obtain ⟨f, h⟩ := h
  refine ⟨f, fun _ _ => trivial, encs (fun x : Option Addr × Nat × Nat => .slice x.1 x.2.1 x.2.2) xs, by rw [List.length_zipIdx, hlen]; exact own, by rw [encs_length, List.length_zipIdx, hlen]; exact (Nat.mul_one _).symm, fun j p hj => ?_⟩
  rw [List.getElem?_zipIdx, Nat.zero_add] at hj
  obtain ⟨l, hl, rfl⟩ := Option.map_eq_some_iff.1 hj
  obtain ⟨A, c', h1, h2⟩ := h j l hl
  obtain ⟨hx, h1⟩ := List.getElem?_eq_some_iff.1 h1
  refine ⟨.slice A l.length c', ?_, Kd.R_mono h2 (fun k hk => ⟨⟨trivial, fun he => hk.1 (by simpa [Value.ownBlock] using he)⟩, hk.2⟩)⟩
  show ((encs (fun x : Option Addr × Nat × Nat => Value.slice x.1 x.2.1 x.2.2) xs).drop (j * 1)).take 1 = _
  rw [Nat.mul_one, List.drop_eq_getElem_cons (by rw [encs_length]; exact hx)]
  simp [encs, h1]
end
def impl_put.T1 : Bool × List (List Nat × List Nat) := (true, [([], []), ([], []), ([1], [1]), ([2], [2]), ([], []), ([], []), ([5], [5]), ([6], [6]), ([4, 7], [4, 7]), ([8], [8]), ([], []), ([10], [10]), ([9, 11], [9, 11]), ([0, 3, 0, 1, 2, 3, 4, 5, 6, 7, 8, 9, 10, 11, 12], [0, 3]), ([13, 12, 12, 0, 1, 2, 3, 4, 5, 6, 7, 8, 9, 10, 11, 12], [12, 13])])
def impl_put.B1 : List Nat := [0, 0, 2, 6, 0, 0, 32, 96, 240, 496, 0, 1024, 4080, 8191, 16383]
theorem impl_put.tab1 : rtab .any (opsOf Tryd.f54 1) = impl_put.T1 := by kernel_rfl
theorem impl_put.bits1 : waitsOk impl_put.T1.2 impl_put.B1 = true := by kernel_rfl
set_option maxHeartbeats 8000000 in
set_option maxRecDepth 100000 in
theorem impl_put.calls (x : S84) (gb g n c m : Nat) (J : Int) (xs : List (Option Addr × Nat × Nat)) (Ai : Option Addr) (ci : Nat) (ps : List S84) (w0 w : World) (hB : Below w0.heap.size w0 w) (hJ : ((n : Nat) : Int) - 1 = J) (hn : n ≤ 1000) (h1 : 1 ≤ n) (hm : ps.length = m) (hml : m ≤ 1000)
    (hbk : w.heap[gb]? = some (.cells #[.slice (some ⟨g, 0, none⟩) n c] 77 (0, 0))) (hS : w.cell? ⟨g, J.toNat, none⟩ = some (.slice Ai m ci)) (hO : Kd.R kcut 85 w w0.heap.size (fun k => k = g) (.slice (some ⟨g, 0, none⟩) n c) xs) (hI : Kd.R k84 84 w w0.heap.size (fun k => k ≠ gb ∧ k ≠ g) (.slice Ai m ci) ps) :
    Calls Tryd.prog 54 #[.agg #[.int .u8 x.f0, .bool x.f1, .bool x.f2], .pointer (some ⟨gb, 0, none⟩)] w fun e w' => (∃ v, e = .returned v) ∧ Below w0.heap.size w0 w' ∧ w'.heap[gb]? = some (.cells #[.slice (some ⟨g, 0, none⟩) n c] 77 (0, 0)) ∧ ∃ Aj cj, Kd.R kcut 85 w' w0.heap.size (fun k => k = g) (.slice (some ⟨g, 0, none⟩) n c) (xs.set J.toNat (Aj, m + 1, cj)) ∧ Kd.R k84 84 w' w0.heap.size (fun k => k ≠ gb ∧ k ≠ g) (.slice Aj (m + 1) cj) (ps ++ [x]) ∧ (∀ k, k < w.heap.size → k ≠ g → some k ≠ (.slice Ai m ci : Value).ownBlock → w'.heap[k]? = w.heap[k]?) ∧ ((.slice Aj (m + 1) cj : Value).ownBlock = (.slice Ai m ci : Value).ownBlock ∨ ∃ b, (.slice Aj (m + 1) cj : Value).ownBlock = some b ∧ w.heap.size ≤ b) := by
  have hu := Tryd.underlying84
  have iP : (Tryd.prog.info? 84).map (fun i => (i.zero, i.size, i.bytes)) = some (some (.agg #[.int .u8 0, .bool false, .bool false]), 3, 3) := by kernel_rfl
  have HB := am_ hB
  have BK := am_ hbk
  have HS1 := am_ hS
  have HO := am_ hO
  have HI := am_ hI
  have HGL := am_ (Kd.R_lt hO g rfl)
  have HL := am_ (show ps.length ≤ 1000 by omega)
  have HM := am_ hm
  have hJw : IntKind.i64.wrap ((n : Int) - 1) = J := by rw [IntKind.wrap_i64]; omega
  have hJv : wrap64 ((n : Int) - 1) = J := by unfold wrap64; omega
  have hj0 : (0 ≤ J) = True := eq_true (by omega)
  have hj1 : (J < (n : Int)) = True := eq_true (by omega)
  have HN := am_ hn
  clear hB hbk hS hO hI hm hn h1 hml hJ
  go_enter Tryd.func54, Tryd.ntmps54
  go_wp2_with (first | ((with_reducible refine gate_dst (N := 2) rfl ?_); refine bx_ 2 #[.int .u8 x.f0, .bool x.f1, .bool x.f2] 84 ?_; intro gx hg w8 hbox hb; have n0_ := am_ (Kd.R_below HO.out hb); have n1_ := am_ (Kd.R_below (Kd.R_elderB HI.out gx (Nat.le_of_eq hg.symm)) hb); have n2_ := am_ (blk_below (g := gb) BK.out hb); have n3_ := am_ (below_step HB.out hb); have n4_ := am_ (kp_ ⟨hb⟩ HS1.out); have n5_ := am_ (Nat.lt_of_lt_of_le HGL.out hb.size); have n6_ := am_ hb; have BX := am_ hbox; clear HO HI BK HB HS1 HGL; have HO := n0_; have HI := n1_; have BK := n2_; have HB := n3_; have HS1 := n4_; have HGL := n5_; have HK := n6_; clear n0_ n1_ n2_ n3_ n4_ n5_ n6_ hb hbox hg))
  have n0_ := am_ (Kd.R_drew HO.out)
  have n1_ := am_ (Kd.R_drew HI.out)
  have n2_ := am_ (blk_drew BK.out)
  have n3_ := am_ (below_drew1 HB.out)
  have n4_ := am_ (show w8.drew.cell? ⟨g, J.toNat, none⟩ = some (.slice Ai m ci) from HS1.out)
  have n5_ := am_ (show g < w8.drew.heap.size from HGL.out)
  have n6_ := am_ (blk_drew BX.out)
  have n7_ := am_ (below_drew1 HK.out)
  clear HO HI BK HB HS1 HGL BX HK
  have HO := n0_
  have HI := n1_
  have BK := n2_
  have HB := n3_
  have HS1 := n4_
  have HGL := n5_
  have BX := n6_
  have HK := n7_
  clear n0_ n1_ n2_ n3_ n4_ n5_ n6_ n7_
  refine start_ (n := 15) (S := fun w' => w'.cell? ⟨gb, 0, none⟩ = some (.slice (some ⟨g, 0, none⟩) n c) ∧ w'.cell? ⟨g, J.toNat, none⟩ = some (.slice Ai m ci) ∧ w'.cell? ⟨gx, 0, none⟩ = some (.int .u8 x.f0) ∧ w'.cell? ⟨gx, 1, none⟩ = some (.bool x.f1) ∧ w'.cell? ⟨gx, 2, none⟩ = some (.bool x.f2)) (ds := [14]) (bz 15 0) (by kernel_rfl) rfl rfl ⟨(bc1_0 BK), HS1.out, (bc3_0 BX), (bc3_1 BX), (bc3_2 BX)⟩ (fun hHeld => ?_)
  refine with_tabW impl_put.tab1 impl_put.bits1 (fun HT_ HW_ => ?_)
  generalize w8.drew = w9 at BK BX HB HO HI HS1 HGL HK hHeld ⊢
  refine tz_ 0 3 1 ?_
  refine tz_ 1 4 3 ?_
  refine pz_ 2 5 7 ?_
  refine pz_ 3 6 15 ?_
  refine tz_ 4 7 31 ?_
  refine tz_ 5 8 63 ?_
  refine pz_ 6 9 127 ?_
  refine pz_ 7 10 255 ?_
  refine pz_ 8 11 511 ?_
  refine tz_ 9 12 1023 ?_
  refine tz_ 10 13 2047 ?_
  refine one_ (i := 11) (N := some 14) (bz 15 4095) rfl rfl (one_of HT_.out (by kernel_rfl)) (by decide) (fun K hK => ?_)
  refine value_ (w1 := ?_) (v := ?_) (by rfl) rfl ?_ ?_
  rotate_left 2
  · go_simp
    constructor
    · rfl
    · rfl
  refine hK.out _ _ ⟨(blk_cell (blk_alloc BK.out _) 0).trans rfl, kp_ ⟨below_alloc (Below.refl _ _) _⟩ HS1.out, (blk_cell (blk_alloc BX.out _) 0).trans rfl, (blk_cell (blk_alloc BX.out _) 1).trans rfl, (blk_cell (blk_alloc BX.out _) 2).trans rfl⟩ (fun hHeld => ?_)
  clear hK K
  refine norm_ (a' := ?_) ?_ ?_
  rotate_left
  · show Act.put _ (some 14) _ = _
    simp only [Act.put, List.setIfInBounds_toArray, List.set_cons_zero, List.set_cons_succ, i64_w, i32_w]
    rfl
  refine one_ (i := 12) (N := some 15) (bz 15 8191) rfl rfl (one_of HT_.out (by kernel_rfl)) (by decide) (fun K hK => ?_)
  refine Kd.R_append_step k84 (w0 := w0) w0.heap.size (by rfl) (.tmp 12) (.tmp 14) 85 84 (.agg #[.int .u8 0, .bool false, .bool false]) 3 rfl Tryd.underlying85 iP rfl (by decide) (by omega) (.slice Ai m ci) ps x [.int .u8 x.f0, .bool x.f1, .bool x.f2] (fun k_ => (k_ ≠ gb ∧ k_ ≠ g) ∧ k_ ≠ gx) (fun _ => False) rfl rfl ?aP (fun _ hk => hk.elim) ?aF ?aO ?aB ?aS ?aL ?_
  (case aP => exact k84_mkM _ _ _ x)
  (case aB => exact bg_)
  (case aF => exact (fun k_ hk => ⟨⟨fun e_ => by have h_ := blk_lt BK.out; omega, fun e_ => by have h_ := HGL.out; omega⟩, fun e_ => by have h_ := blk_lt BX.out; omega⟩))
  (case aO => exact HI.out)
  (case aS => exact (below_size bg_))
  (case aL => have h_ := HL.out; omega)
  intro v15 w15 ho hb hg hat
  have hnb : some gb ≠ (.slice Ai m ci : Value).ownBlock := Kd.R_away HI.out (fun _ hk => hk.1.1)
  have hng : some g ≠ (.slice Ai m ci : Value).ownBlock := Kd.R_away HI.out (fun _ hk => hk.1.2)
  have hnx : some gx ≠ (.slice Ai m ci : Value).ownBlock := Kd.R_away HI.out (fun _ hk => hk.2)
  have n0_ := am_ (blk_grown (g := gb) BK.out hg hnb)
  have n1_ := am_ (blk_grown (g := gx) BX.out hg hnx)
  have n2_ := am_ hb
  have n3_ := am_ ho
  have n4_ := am_ (show Kd.R kcut 85 w15 w0.heap.size (fun k => k = g) (.slice (some ⟨g, 0, none⟩) n c) xs from Kd.R_move HO.out (fun k_ hk => by rw [show k_ = g from hk]; exact hg.block g HGL.out hng))
  have n5_ := am_ ((World.cell?_of_block (a := ⟨g, J.toNat, none⟩) (hg.block g HGL.out hng)).trans HS1.out)
  have n6_ := am_ (Nat.lt_of_lt_of_le HGL.out hg.size)
  have n7_ := am_ (show ∀ k, k < w.heap.size → some k ≠ (.slice Ai m ci : Value).ownBlock → w15.heap[k]? = w.heap[k]? from fun k hk hn => (hg.block k (Nat.lt_of_lt_of_le hk HK.out.size) hn).trans (HK.out.block k hk))
  have n8_ := am_ (show (v15 : Value).ownBlock = (.slice Ai m ci : Value).ownBlock ∨ ∃ b, (v15 : Value).ownBlock = some b ∧ w.heap.size ≤ b from hat.imp id (fun h_ => h_.elim fun b h2_ => ⟨b, h2_.1, Nat.le_trans HK.out.size h2_.2⟩))
  clear BK BX HB HI HO HS1 HGL HK hnb hng hnx ho hb hg hat
  have BK := n0_
  have BX := n1_
  have HB := n2_
  have HI := n3_
  have HO := n4_
  have HS1 := n5_
  have HGL := n6_
  have HKP := n7_
  have HOB := n8_
  clear n0_ n1_ n2_ n3_ n4_ n5_ n6_ n7_ n8_
  obtain ⟨Aj, cj, ej⟩ := Kd.R_slice HI.out
  subst ej
  obtain ⟨cl_, hcl_⟩ := Kd.R_typed HO.out g rfl
  have hfr := blk_frozen hcl_ J.toNat
  refine hK.out _ _ ⟨(bc1_0 BK), HS1.out, (bc3_0 BX), (bc3_1 BX), (bc3_2 BX)⟩ (fun hHeld => ?_)
  clear hK K
  refine norm_ (a' := ?_) ?_ ?_
  rotate_left
  · show Act.put _ (some 15) _ = _
    simp only [Act.put, List.setIfInBounds_toArray, List.set_cons_zero, List.set_cons_succ, i64_w, i32_w]
    rfl
  refine pz_ 13 16 16383 ?_
  refine last_ (i := 14) (N := none) (bz 15 32767) rfl rfl (one_of HT_.out (by kernel_rfl)) (by decide) (fun K hK => ?_)
  refine skip_ (w1 := ?_) (by rfl) rfl ?_ ?_
  rotate_left
  · go_simp
    rfl
  refine hK.out _ _ ?_
  clear hK K
  refine done_ (done_of HT_.out (by kernel_rfl)) ?_
  
  have hgb : w0.heap.size ≤ g := ((Kd.R_bound HO.out).1 g rfl).2.1
  have hne : some gb ≠ (.slice (some ⟨g, 0, none⟩) n c : Value).ownBlock := Kd.R_ne HO.out BK.out (by decide)
  have hl2 : (ps ++ [x]).length = m + 1 := by rw [List.length_append, List.length_singleton, HM.out]
  have hl3 := HM.out
  subst hl3
  refine bodyPost_end (results_none rfl _ _ _) rfl ?_
  refine ⟨⟨_, rfl⟩, below_set HB.out hgb, blk_far BK.out (fun e_ => hne (by rw [e_]; rfl)) _, Aj, cj, ?_, ?_, ?_, ?_⟩
  · exact Kd.R_putn (enc := fun x : Option Addr × Nat × Nat => .slice x.1 x.2.1 x.2.2) (h1 := fun _ => rfl) HO.out J (Aj, ps.length + 1, cj)
  · have h9 := Kd.R_mono (Kd.R_far (p := ⟨g, J.toNat, none⟩) HI.out (fun _ hk => hk.1.2) (.slice Aj (ps.length + 1) cj)) (fun _ hk => hk.1)
    rw [hl2] at h9
    exact h9
  · exact fun k_ hk hk2 hk3 => (Below.heap_setCell _ ⟨g, J.toNat, none⟩ _ k_ hk2).trans (HKP.out k_ hk hk3)
  · have h9 := HOB.out
    rw [hl2] at h9
    exact h9
theorem cut_tight {e base g n c : Nat} {w : World} {ok : Nat → Prop} {xs : List (Option Addr × Nat × Nat)} (h : Kd.R kcut e w base ok (.slice (some ⟨g, 0, none⟩) n c) xs) : Kd.R kcut e w base (fun k => k = g) (.slice (some ⟨g, 0, none⟩) n c) xs :=
  Kd.R_of_own (enc := fun x : Option Addr × Nat × Nat => .slice x.1 x.2.1 x.2.2) (h1 := fun _ => rfl) (Kd.own_of_R (enc := fun x : Option Addr × Nat × Nat => .slice x.1 x.2.1 x.2.2) (h1 := fun _ => rfl) h) (fun k hk => by simp [Value.ownBlock] at hk; exact hk.symm)
theorem cut_cell {e base g n c j : Nat} {w : World} {ok : Nat → Prop} {xs : List (Option Addr × Nat × Nat)} {x : Option Addr × Nat × Nat} (h : Kd.R kcut e w base ok (.slice (some ⟨g, 0, none⟩) n c) xs) (hx : xs[j]? = some x) : w.cell? ⟨g, j, none⟩ = some (.slice x.1 x.2.1 x.2.2) := by
  obtain ⟨h1, h2, h3⟩ := Kd.R_reads' h
  have h4 := Kd.reads_of_C (enc := fun x : Option Addr × Nat × Nat => .slice x.1 x.2.1 x.2.2) (d := (none, 0, 0)) (h1 := fun _ => rfl) h3
  obtain ⟨hj, hx⟩ := List.getElem?_eq_some_iff.1 hx
  obtain ⟨ad, e1, h5⟩ := h4.2.2 (by omega)
  cases e1
  have h6 := h5 j hj
  rw [List.getD_eq_getElem?_getD, List.getElem?_eq_getElem hj, Option.getD_some, hx, add_plain] at h6
  exact h6
theorem cut_cell3 {e base g n c j : Nat} {w : World} {ok : Nat → Prop} {xs : List (Option Addr × Nat × Nat)} {A : Option Addr} {m ci : Nat} (h : Kd.R kcut e w base ok (.slice (some ⟨g, 0, none⟩) n c) xs) (hx : xs[j]? = some (A, m, ci)) : w.cell? ⟨g, j, none⟩ = some (.slice A m ci) := cut_cell h hx
theorem four_at : ∀ b : Fin 256, decide (Lib.indexByte [42, 63, 124, 92] (UInt8.ofNat b.val) < 0) = !(okE ((b.val : Nat) : Int)) := by decide +kernel
theorem four_of {d : Int} (h0 : 0 ≤ d) (h1 : d ≤ 255) : decide (Lib.indexByte [42, 63, 124, 92] d.toNat.toUInt8 < 0) = !(okE d) := by
  have h := four_at ⟨d.toNat, by omega⟩
  simp only [Int.toNat_of_nonneg h0] at h
  exact h
/-- A code as a piece. -/
def altP (c : Int) : S84 := if c = -1 then ⟨0, false, true⟩ else if c = -2 then ⟨0, true, false⟩ else ⟨c, false, false⟩
theorem altP_bt (s : ByteArray) (i : Int) : altP (bt s i) = ⟨bt s i, false, false⟩ := by have := bt_range s i; unfold altP; rw [if_neg (by omega), if_neg (by omega)]
/-- What an append to the row in hand leaves of the rows ahead of it. -/
theorem rows_put {α : Type} {d : Kd α} {e base g gb m ci cj j : Nat} {Ai Aj : Option Addr} {w w1 : World} {xs : List (Option Addr × Nat × Nat)} {o : List (List α)} (h : Rows d e w base (fun k => k ≠ gb ∧ k ≠ g ∧ some k ≠ (.slice Ai m ci : Value).ownBlock) xs o) (hj : o.length ≤ j) (hk : ∀ k, k < w.heap.size → k ≠ g → some k ≠ (.slice Ai m ci : Value).ownBlock → w1.heap[k]? = w.heap[k]?) (hb : (.slice Aj (m + 1) cj : Value).ownBlock = (.slice Ai m ci : Value).ownBlock ∨ ∃ b, (.slice Aj (m + 1) cj : Value).ownBlock = some b ∧ w.heap.size ≤ b) : Rows d e w1 base (fun k => k ≠ gb ∧ k ≠ g ∧ some k ≠ (.slice Aj (m + 1) cj : Value).ownBlock) (xs.set j (Aj, m + 1, cj)) o := by
  refine rows_step h (fun k h1 h2 => hk k h2 h1.2.1 h1.2.2) (fun k h1 h2 => ⟨h1.1, h1.2.1, ?_⟩) (fun i hi => List.getElem?_set_ne (by omega))
  rcases hb with hb | ⟨b, hb, hle⟩
  · rw [hb]; exact h1.2.2
  · rw [hb]; intro he; injection he with he; omega
/-- A new row behind the row in hand, which stays as it is from there on. -/
theorem rows_bar {α : Type} {d : Kd α} {e base g gb m ci g2 n2 c2 n c : Nat} {Ai : Option Addr} {w w1 : World} {xs ys : List (Option Addr × Nat × Nat)} {o : List (List α)} {l : List α} (hE : d.E = []) (h : Rows d e w base (fun k => k ≠ gb ∧ k ≠ g ∧ some k ≠ (.slice Ai m ci : Value).ownBlock) xs o) (hx : xs[o.length]? = some (Ai, m, ci)) (hm : l.length = m) (hI : Kd.R d e w base (fun k => k ≠ gb ∧ k ≠ g) (.slice Ai m ci) l) (hl : o.length + 1 = xs.length)
    (hg : w.grownBy w1 (.slice (some ⟨g, 0, none⟩) n c : Value).ownBlock) (hat : (.slice (some ⟨g2, 0, none⟩) n2 c2 : Value).ownBlock = (.slice (some ⟨g, 0, none⟩) n c : Value).ownBlock ∨ ∃ b, (.slice (some ⟨g2, 0, none⟩) n2 c2 : Value).ownBlock = some b ∧ w.heap.size ≤ b) : Rows d e w1 base (fun k => k ≠ gb ∧ k ≠ g2) (xs ++ ys) (o ++ [l]) := by
  have h1 : Rows d e w base (fun k => k ≠ gb ∧ k ≠ g) xs (o ++ [l]) := rows_snoc (ok := fun k => k ≠ gb ∧ k ≠ g) hE (rows_step h (fun _ _ _ => rfl) (fun k hk _ => ⟨⟨hk.1, hk.2.1⟩, hk.2.2⟩) (fun _ _ => rfl)) hx hm hI
  refine rows_step h1 (fun k hk hlt => hg.block k hlt (fun he => hk.2 (by simpa [Value.ownBlock] using he))) (fun k hk hlt => ⟨hk.1, ?_⟩) (fun j hj => List.getElem?_append_left (by simp at hj; omega))
  rcases hat with hb | ⟨b, hb, hle⟩
  · have : g2 = g := by simpa [Value.ownBlock] using hb
    rw [this]; exact hk.2
  · have : g2 = b := by simpa [Value.ownBlock] using hb
    omega
def impl_alternatives.f (k : Nat) (a0 : ByteArray) : Option (List (List S84) × Bool) := (impl_printed.f k a0 100).bind fun t => if t = true then (if a0.size ≤ 900 then some ((altA a0 0 [] []).1.map (List.map altP), (altA a0 0 [] []).2) else none) else some ([], false)
theorem impl_alternatives.mono : ∀ a0 k, LeO (impl_alternatives.f k a0) (impl_alternatives.f (k + 1) a0) := by
  intro a0 k
  unfold impl_alternatives.f
  exact LeO.bind (impl_printed.mono _ _ _) (fun _ => LeO.refl _)
set_option maxHeartbeats 32000000 in
set_option maxRecDepth 100000 in
theorem impl_alternatives.calls (k : Nat) (a0 : ByteArray) (r1 : List (List S84)) (r2 : Bool) (w : World) (h : impl_alternatives.f k a0 = some (r1, r2)) :
    Calls Tryd.prog 51 #[.string a0] w fun e w' => ∃ v0_ : Value, e = .returned (.tuple #[v0_, .bool r2]) ∧ Kd.S (Kd.slice 84 k84) 85 w' w.heap.size (fun _ => True) v0_ r1 ∧ Below w.heap.size w w' := by
  have iS : (Tryd.prog.info? 85).map (fun i => (i.zero, i.size, i.bytes)) = some (some (.slice none 0 0), 1, 24) := by kernel_rfl
  have hu := Tryd.underlying84
  have HB := am_ (Below.refl w.heap.size w)
  unfold impl_alternatives.f at h
  obtain ⟨t, ht, h⟩ := Option.bind_eq_some_iff.mp h
  have HT := am_ ht
  clear ht
  cases t with
  | false =>
    rw [if_neg (by decide)] at h
    simp only [Option.some.injEq, Prod.mk.injEq] at h
    obtain ⟨rfl, rfl⟩ := h
    go_enter Tryd.func51, Tryd.ntmps51
    go_wp2_with (first | (go_at_call 44; refine (impl_printed.calls k a0 100 false _ HT.out).mono ?_; rintro e w' ⟨rfl, ⟨nd, rfl⟩⟩))
    go_ret2
    exact ⟨_, rf_, ni_, bl_⟩
  | true =>
    rw [if_pos rfl] at h
    by_cases hz : a0.size ≤ 900
    · rw [if_pos hz] at h
      have HZ := am_ hz
      obtain ⟨qs, hq⟩ : ∃ qs, (altA a0 0 [] []).1 = qs := ⟨_, rfl⟩
      simp only [Option.some.injEq, Prod.mk.injEq] at h
      have HR := am_ (show altA a0 0 [] [] = (qs, r2) from Prod.ext hq h.2)
      have HQ := am_ (show qs.map (List.map altP) = r1 from by rw [← hq]; exact h.1)
      clear h hz hq
      go_enter Tryd.func51, Tryd.ntmps51
      go_wp2_with (first | (go_at_call 44; refine (impl_printed.calls k a0 100 true _ HT.out).mono ?_; rintro e w' ⟨rfl, ⟨nd, rfl⟩⟩) | ((with_reducible refine gate_dst (N := 11) rfl ?_); refine Kd.R_lit kcut _ 85 ?hg (N := 11) ?hd (xs := [(none, 0, 0)]) (inner := [.slice none 0 0]) (ok := fun _ => True) (okp := fun _ => True) ?hr ?hp (fun _ hk => hk) trivial (Below.refl _ _) (Nat.le_refl _) (by simp) ?_; (case hd => rfl); (case hg => rfl); (case hr => first | (go_simp; done) | (go_simp; rfl)); (case hp => exact (Reps.one (show Kd.M kcut _ _ _ (none, 0, 0) [.slice none 0 0] from rfl) (Reps.none _ _))); intro v11 w11 ho hb hg_ hnew_; obtain ⟨g0, cp0, ev0, hz1_, hz2_, hz3_⟩ := Kd.R_form ho (by simp); subst ev0; have n0_ := am_ (cut_tight (Kd.R_lower ho (below_size bl_))); have n1_ := am_ (below_step bl_ hb); clear HB; have HO := n0_; have HB := n1_; clear n0_ n1_ ho hb hg_ hnew_ hz1_ hz2_ hz3_) | ((with_reducible refine gate_dst (N := 4) rfl ?_); refine bx_ 4 #[.slice none 0 0] 77 ?_; intro gb hg w12 hbox hb; have n0_ := am_ (Kd.R_below HO.out hb); have n1_ := am_ (below_step bl_ hb); have GE := am_ (gs_ hg : w.heap.size ≤ gb); have BK := am_ hbox; clear HO HB; have HO := n0_; have HB := n1_; clear n0_ n1_ hb hbox hg; have hcz1_0 := bc1_0 BK; have hfz1_0 := bf_ BK 0))
      have hne0 : g0 ≠ gb := fun e_ => Kd.R_ne HO.out BK.out (by decide) (by rw [e_]; rfl)
      have HNE := am_ hne0
      clear hne0 hcz1_0 hfz1_0
      go_loopg [6] a0.size (fun gg v6 w' => ∃ (g n c : Nat) (xs : List (Option Addr × Nat × Nat)) (Ai : Option Addr) (m ci : Nat) (o : List (List Int)) (nw : List Int) (i : Nat), v6 = .int .i64 (i : Int) ∧ Aside0 (n = xs.length ∧ 1 ≤ n ∧ n ≤ i + 1 ∧ m ≤ i ∧ nw.length = m ∧ i ≤ a0.size ∧ a0.size ≤ 900 ∧ xs[n - 1]? = some (Ai, m, ci) ∧ a0.size - i ≤ gg ∧ o.length + 1 = n) ∧ Aside0 (altA a0 i o nw = (qs, r2)) ∧ Aside0 (w'.heap[gb]? = some (.cells #[.slice (some ⟨g, 0, none⟩) n c] 77 (0, 0))) ∧ Aside0 (g ≠ gb) ∧ Aside0 (Kd.R kcut 85 w' w.heap.size (fun k => k = g) (.slice (some ⟨g, 0, none⟩) n c) xs) ∧ Aside0 (Kd.R k84 84 w' w.heap.size (fun k => k ≠ gb ∧ k ≠ g) (.slice Ai m ci) (nw.map altP)) ∧ Aside0 (Rows k84 84 w' w.heap.size (fun k => k ≠ gb ∧ k ≠ g ∧ some k ≠ (.slice Ai m ci : Value).ownBlock) xs (o.map (List.map altP))) ∧ Aside0 (Below w.heap.size w w'))
      case atStart => exact ⟨g0, 1, cp0, [(none, 0, 0)], none, 0, 0, [], [], 0, rs_, ⟨by have := HZ.out; simp; omega⟩, HR, ⟨blk_put (cs := #[.slice none 0 0]) BK.out 0 _ rfl⟩, HNE, ⟨Kd.R_far (p := ⟨gb, 0, none⟩) HO.out (fun k_ hk => by rw [show k_ = g0 from hk]; exact HNE.out) _⟩, ⟨Kd.R_nil _ _ _ _ _⟩, ⟨rows_nil _ _ _ _ _ _⟩, ⟨below_set HB.out GE.out⟩⟩
      case round =>
        obtain ⟨g, n, c, xs, Ai, m, ci, o, nw, i, rfl, HL, HA, BK, HNE, HO, HI, HS, HB⟩ := hrel
        obtain ⟨I, hI⟩ : ∃ I : Int, (i : Int) = I := ⟨_, rfl⟩
        rw [hI]
        have HIq := am_ hI
        have hcz2_0 := bc1_0 BK
        have hfz2_0 := bf_ BK 0
        by_cases c4 : I < (a0.size : Int)
        · have c4b0 : decide (I < (a0.size : Int)) = true := decide_eq_true c4
          have hI0 : 0 ≤ I := by omega
          have hx6 := bt_at a0 I
          have p6 := eq_true hI0
          have q6 := eq_true c4
          have HIL := am_ c4
          clear c4 hI0 hI
          by_cases d124 : bt a0 I = 124
          · have c124b0 : (bt a0 I == 124) = true := beq_iff_eq.mpr d124
            have HN := am_ d124
            clear d124
            have HS0 := am_ (show xs[(o.map (List.map altP)).length]? = some (Ai, m, ci) from by have h_ := HL.out.2.2.2.2.2.2.2.1; have h2_ := HL.out; rw [List.length_map, show o.length = n - 1 from by omega]; exact h_)
            go_wp2_with (first | ((with_reducible refine gate_builtin (b := .append) (xs := #[.tmp 29, .tmp 30]) rfl ?_); at_builtin; refine Kd.R_append kcut (w0 := w) w.heap.size rfl (.tmp 29) (.tmp 30) 77 85 (.slice none 0 0) 24 rfl Tryd.underlying77 iS rfl (by decide) (by omega) (.slice (some ⟨g, 0, none⟩) n c) xs (none, 0, 0) [.slice none 0 0] (fun k_ => k_ ≠ gb) (fun _ => False) rfl rfl ?aP (fun _ hk => hk.elim) ?aF ?aO ?aB ?aS ?aL ?_; (case aP => exact rfl); (case aB => exact bl_); (case aF => exact (fun k_ hk e_ => by have h_ := blk_lt BK.out; omega)); (case aO => exact Kd.R_mono (show Kd.R kcut 85 _ w.heap.size (fun k => k = g) (.slice (some ⟨g, 0, none⟩) n c) xs from ro_ HO) (fun k_ hk => by rw [show k_ = g from hk]; exact HNE.out)); (case aS => exact (below_size bl_)); (case aL => have := HL.out; omega); intro v31 w31 ho hb hg hat; obtain ⟨g2, cp2, ev2, hz1_, hz2_, hz3_⟩ := Kd.R_form ho (by simp); subst ev2; have n0_ := am_ (show g2 ≠ gb from ho.1 g2 rfl); have n1_ := am_ (cut_tight ho); have n2_ := am_ hb; have n3_ := am_ (blk_grown (g := gb) (o := .cells #[.slice (some ⟨g, 0, none⟩) n c] 77 (0, 0)) (vk_ BK) hg (fun e_ => HNE.out (by simp [Value.ownBlock] at e_; exact e_.symm))); have n4_ := am_ (rows_bar (ys := [(none, 0, 0)]) (l := (nw.map altP)) rfl (show Rows k84 84 _ w.heap.size (fun k => k ≠ gb ∧ k ≠ g ∧ some k ≠ (.slice Ai m ci : Value).ownBlock) xs (o.map (List.map altP)) from rq_ HS) HS0.out (by rw [List.length_map]; exact HL.out.2.2.2.2.1) (show Kd.R k84 84 _ w.heap.size (fun k => k ≠ gb ∧ k ≠ g) (.slice Ai m ci) (nw.map altP) from ro_ HI) (by have := HL.out; rw [List.length_map]; omega) hg hat); clear HO HB BK HNE HI HS; have HNE := n0_; have HO := n1_; have HB := n2_; have BK := n3_; have HS := n4_; clear n0_ n1_ n2_ n3_ n4_ ho hb hg hat hz1_ hz2_ hz3_; have hcz3_0 := bc1_0 BK; have hfz3_0 := bf_ BK 0))
            go_roundg (a0.size - (i + 1))
            case measure => have h1_ := HIq.out; have h2_ := HL.out; have h3_ := HIL.out; omega
            case rel => exact ⟨g2, xs.length + 1, cp2, xs ++ [(none, 0, 0)], none, 0, 0, o ++ [nw], [], i + 1, (by first | rfl | (have h1_ := HIq.out; have h2_ := HL.out; have h3_ := HIL.out;  congr 1; unfold wrap64; omega)), ⟨by have h1_ := HIq.out; have h2_ := HL.out; have h3_ := HIL.out;  refine ⟨by simp, by omega, by omega, by omega, rfl, by omega, by omega, ?_, by omega, by simp; omega⟩; simp⟩, ⟨(altA_bar (by have h1_ := HIq.out; have h3_ := HIL.out; omega) (by rw [HIq.out]; exact HN.out)).symm.trans HA.out⟩, ⟨blk_put (cs := #[.slice (some ⟨g, 0, none⟩) n c]) BK.out 0 _ rfl⟩, HNE, ⟨by have h8 := HO.out; rw [List.length_append, List.length_singleton] at h8; exact Kd.R_far (p := ⟨gb, 0, none⟩) h8 (fun k_ hk => by rw [show k_ = g2 from hk]; exact HNE.out) _⟩, ⟨Kd.R_nil _ _ _ _ _⟩, ⟨by rw [List.map_append, List.map_singleton]; exact rows_step HS.out (fun k_ hk _ => Below.heap_setCell _ ⟨gb, 0, none⟩ _ k_ hk.1) (fun k_ hk _ => ⟨hk.1, hk.2, by simp [Value.ownBlock]⟩) (fun _ _ => rfl)⟩, ⟨below_set HB.out GE.out⟩⟩
          · have c124b0 : (bt a0 I == 124) = false := beq_eq_false_iff_ne.mpr d124
            by_cases d42 : bt a0 I = 42
            · have c42b0 : (bt a0 I == 42) = true := beq_iff_eq.mpr d42
              have HN := am_ d42
              clear d42
              have HS0 := am_ (show xs[((n : Int) - 1).toNat]? = some (Ai, m, ci) from by have h_ := HL.out.2.2.2.2.2.2.2.1; have h2_ := HL.out.2.1; rw [show ((n : Int) - 1).toNat = n - 1 from by omega]; exact h_)
              go_wp2_with (first | (go_at_call 54; refine (impl_put.calls (⟨0, false, true⟩ : S84) gb g n c m ((n : Int) - 1) xs Ai ci (nw.map altP) w _ HB.out rfl (by have := HL.out; omega) (by have := HL.out; omega) (by rw [List.length_map]; exact HL.out.2.2.2.2.1) (by have := HL.out; omega) BK.out (cut_cell3 HO.out HS0.out) HO.out HI.out).mono ?_; rintro e w20 ⟨⟨v20, rfl⟩, hb, hbk, Aj, cj, hO, hI2, hk2, ho2⟩; have n0_ := am_ hb; have n1_ := am_ hbk; have n2_ := am_ hO; have n3_ := am_ hI2; have n4_ := am_ (rows_put (j := ((n : Int) - 1).toNat) HS.out (by have := HL.out; rw [List.length_map]; omega) hk2 ho2); clear HB BK HO HI HS; have HB := n0_; have BK := n1_; have HO := n2_; have HI := n3_; have HS := n4_; clear n0_ n1_ n2_ n3_ n4_ hb hbk hO hI2 hk2 ho2))
              go_roundg (a0.size - (i + 1))
              case measure => have h1_ := HIq.out; have h2_ := HL.out; have h3_ := HIL.out; omega
              case rel => exact ⟨g, n, c, xs.set ((n : Int) - 1).toNat (Aj, m + 1, cj), Aj, m + 1, cj, o, nw ++ [-1], i + 1, (by first | rfl | (have h1_ := HIq.out; have h2_ := HL.out; have h3_ := HIL.out;  congr 1; unfold wrap64; omega)), ⟨by have h1_ := HIq.out; have h2_ := HL.out; have h3_ := HIL.out;  refine ⟨by rw [List.length_set]; omega, by omega, by omega, by omega, by rw [List.length_append, List.length_singleton]; omega, by omega, by omega, ?_, by omega, by omega⟩; rw [show ((n : Int) - 1).toNat = n - 1 from by omega]; exact List.getElem?_set_self (by omega)⟩, ⟨(altA_star (by have h1_ := HIq.out; have h3_ := HIL.out; omega) (by rw [HIq.out]; exact HN.out)).symm.trans HA.out⟩, BK, HNE, HO, ⟨by have h_ := HI.out; rw [← show altP (-1) = (⟨0, false, true⟩ : S84) from rfl, ← List.map_singleton, ← List.map_append] at h_; exact h_⟩, HS, HB⟩
            · have c42b0 : (bt a0 I == 42) = false := beq_eq_false_iff_ne.mpr d42
              by_cases d63 : bt a0 I = 63
              · have c63b0 : (bt a0 I == 63) = true := beq_iff_eq.mpr d63
                have HN := am_ d63
                clear d63
                have HS0 := am_ (show xs[((n : Int) - 1).toNat]? = some (Ai, m, ci) from by have h_ := HL.out.2.2.2.2.2.2.2.1; have h2_ := HL.out.2.1; rw [show ((n : Int) - 1).toNat = n - 1 from by omega]; exact h_)
                go_wp2_with (first | (go_at_call 54; refine (impl_put.calls (⟨0, true, false⟩ : S84) gb g n c m ((n : Int) - 1) xs Ai ci (nw.map altP) w _ HB.out rfl (by have := HL.out; omega) (by have := HL.out; omega) (by rw [List.length_map]; exact HL.out.2.2.2.2.1) (by have := HL.out; omega) BK.out (cut_cell3 HO.out HS0.out) HO.out HI.out).mono ?_; rintro e w20 ⟨⟨v20, rfl⟩, hb, hbk, Aj, cj, hO, hI2, hk2, ho2⟩; have n0_ := am_ hb; have n1_ := am_ hbk; have n2_ := am_ hO; have n3_ := am_ hI2; have n4_ := am_ (rows_put (j := ((n : Int) - 1).toNat) HS.out (by have := HL.out; rw [List.length_map]; omega) hk2 ho2); clear HB BK HO HI HS; have HB := n0_; have BK := n1_; have HO := n2_; have HI := n3_; have HS := n4_; clear n0_ n1_ n2_ n3_ n4_ hb hbk hO hI2 hk2 ho2))
                go_roundg (a0.size - (i + 1))
                case measure => have h1_ := HIq.out; have h2_ := HL.out; have h3_ := HIL.out; omega
                case rel => exact ⟨g, n, c, xs.set ((n : Int) - 1).toNat (Aj, m + 1, cj), Aj, m + 1, cj, o, nw ++ [-2], i + 1, (by first | rfl | (have h1_ := HIq.out; have h2_ := HL.out; have h3_ := HIL.out;  congr 1; unfold wrap64; omega)), ⟨by have h1_ := HIq.out; have h2_ := HL.out; have h3_ := HIL.out;  refine ⟨by rw [List.length_set]; omega, by omega, by omega, by omega, by rw [List.length_append, List.length_singleton]; omega, by omega, by omega, ?_, by omega, by omega⟩; rw [show ((n : Int) - 1).toNat = n - 1 from by omega]; exact List.getElem?_set_self (by omega)⟩, ⟨(altA_any (by have h1_ := HIq.out; have h3_ := HIL.out; omega) (by rw [HIq.out]; exact HN.out)).symm.trans HA.out⟩, BK, HNE, HO, ⟨by have h_ := HI.out; rw [← show altP (-2) = (⟨0, true, false⟩ : S84) from rfl, ← List.map_singleton, ← List.map_append] at h_; exact h_⟩, HS, HB⟩
              · have c63b0 : (bt a0 I == 63) = false := beq_eq_false_iff_ne.mpr d63
                by_cases d92 : bt a0 I = 92
                · have c92b0 : (bt a0 I == 92) = true := beq_iff_eq.mpr d92
                  have H92 := am_ (show bt a0 (i : Int) = 92 by rw [HIq.out]; exact d92)
                  obtain ⟨J, hJ⟩ : ∃ J : Int, I + 1 = J := ⟨_, rfl⟩
                  have hJw : IntKind.i64.wrap (I + 1) = J := by have h1_ := HIq.out; have h2_ := HL.out; rw [IntKind.wrap_i64]; omega
                  have hJv : wrap64 (I + 1) = J := by have h1_ := HIq.out; have h2_ := HL.out; unfold wrap64; omega
                  have HJ := am_ (show ((i + 1 : Nat) : Int) = J by have h1_ := HIq.out; omega)
                  clear d92 d124 d42 d63 hJ
                  by_cases e1 : J = (a0.size : Int)
                  · have e1b0 : (J == (a0.size : Int)) = true := beq_iff_eq.mpr e1
                    obtain ⟨rfl, rfl⟩ : qs = [] ∧ r2 = false := by have h := (altA_cut (by have h1_ := HIq.out; have h3_ := HIL.out; omega) H92.out (by have h1_ := HJ.out; omega)).symm.trans HA.out; simp only [Prod.mk.injEq] at h; exact ⟨h.1.symm, h.2.symm⟩
                    obtain rfl : r1 = [] := HQ.out.symm
                    clear e1
                    go_wp2
                    go_ret2
                    exact ⟨_, rf_, ni_, bl_⟩
                  · have e1b0 : (J == (a0.size : Int)) = false := beq_eq_false_iff_ne.mpr e1
                    have j1 : J < (a0.size : Int) := by have h1_ := HJ.out; have h2_ := HIL.out; have h3_ := HIq.out; omega
                    have j0 : 0 ≤ J := by have h1_ := HJ.out; omega
                    have HE := am_ ((altA_esc (s := a0) (i := i) (by have h1_ := HJ.out; omega) H92.out).symm.trans HA.out)
                    have HJL := am_ j1
                    have hx7 := bt_at a0 J
                    have p7 := eq_true j0
                    have q7 := eq_true j1
                    have hrg := bt_range a0 J
                    have h4q := four_of hrg.1 hrg.2
                    obtain ⟨Z, hZ⟩ : ∃ Z : Int, (Lib.indexByte (⟨#[42, 63, 124, 92]⟩ : ByteArray).data.toList (bt a0 J).toNat.toUInt8) = Z := ⟨_, rfl⟩
                    have HZZ := am_ (show strings_IndexByte.f (⟨#[42, 63, 124, 92]⟩ : ByteArray) (bt a0 J) = some Z from by unfold strings_IndexByte.f; rw [← hZ])
                    have h4z : decide (Z < 0) = !(okE (bt a0 J)) := by rw [← hZ]; exact h4q
                    clear j0 j1 e1 hrg h4q hZ
                    cases hk : okE (bt a0 J) with
                    | false =>
                      rw [hk] at h4z
                      have z0 : decide (Z < 0) = true := h4z
                      obtain ⟨rfl, rfl⟩ : qs = [] ∧ r2 = false := by have h := HE.out; rw [HJ.out, hk, if_neg (by decide)] at h; simp only [Prod.mk.injEq] at h; exact ⟨h.1.symm, h.2.symm⟩
                      obtain rfl : r1 = [] := HQ.out.symm
                      clear h4z hk
                      go_wp2_with (first | (go_at_call 55; refine (strings_IndexByte.calls (⟨#[42, 63, 124, 92]⟩ : ByteArray) (bt a0 J) Z _ HZZ.out).mono ?_; rintro e w' ⟨rfl, ⟨nd, rfl⟩⟩; replace BK := am_ (blk_drewN BK.out nd); replace HO := am_ (Kd.R_drewN HO.out nd); replace HI := am_ (Kd.R_drewN HI.out nd); replace HS := am_ (rows_drewN HS.out nd); replace HB := am_ (pw_below_drewN HB.out nd)))
                      go_ret2
                      exact ⟨_, rf_, ni_, bl_⟩
                    | true =>
                      rw [hk] at h4z
                      have z0 : decide (Z < 0) = false := h4z
                      have HK := am_ hk
                      clear h4z hk
                      have HS0 := am_ (show xs[((n : Int) - 1).toNat]? = some (Ai, m, ci) from by have h_ := HL.out.2.2.2.2.2.2.2.1; have h2_ := HL.out.2.1; rw [show ((n : Int) - 1).toNat = n - 1 from by omega]; exact h_)
                      go_wp2_with (first | (go_at_call 55; refine (strings_IndexByte.calls (⟨#[42, 63, 124, 92]⟩ : ByteArray) (bt a0 J) Z _ HZZ.out).mono ?_; rintro e w' ⟨rfl, ⟨nd, rfl⟩⟩; replace BK := am_ (blk_drewN BK.out nd); replace HO := am_ (Kd.R_drewN HO.out nd); replace HI := am_ (Kd.R_drewN HI.out nd); replace HS := am_ (rows_drewN HS.out nd); replace HB := am_ (pw_below_drewN HB.out nd)) | (go_at_call 54; refine (impl_put.calls (⟨bt a0 J, false, false⟩ : S84) gb g n c m ((n : Int) - 1) xs Ai ci (nw.map altP) w _ HB.out rfl (by have := HL.out; omega) (by have := HL.out; omega) (by rw [List.length_map]; exact HL.out.2.2.2.2.1) (by have := HL.out; omega) BK.out (cut_cell3 HO.out HS0.out) HO.out HI.out).mono ?_; rintro e w20 ⟨⟨v20, rfl⟩, hb, hbk, Aj, cj, hO, hI2, hk2, ho2⟩; have n0_ := am_ hb; have n1_ := am_ hbk; have n2_ := am_ hO; have n3_ := am_ hI2; have n4_ := am_ (rows_put (j := ((n : Int) - 1).toNat) HS.out (by have := HL.out; rw [List.length_map]; omega) hk2 ho2); clear HB BK HO HI HS; have HB := n0_; have BK := n1_; have HO := n2_; have HI := n3_; have HS := n4_; clear n0_ n1_ n2_ n3_ n4_ hb hbk hO hI2 hk2 ho2))
                      go_roundg (a0.size - (i + 2))
                      case measure => have h1_ := HIq.out; have h2_ := HL.out; have h3_ := HIL.out; omega
                      case rel => exact ⟨g, n, c, xs.set ((n : Int) - 1).toNat (Aj, m + 1, cj), Aj, m + 1, cj, o, nw ++ [bt a0 J], i + 2, (by first | rfl | (have h1_ := HIq.out; have h2_ := HL.out; have h3_ := HIL.out; have h4_ := HJ.out; have h5_ := HJL.out;  congr 1; unfold wrap64; omega)), ⟨by have h1_ := HIq.out; have h2_ := HL.out; have h3_ := HIL.out; have h4_ := HJ.out; have h5_ := HJL.out;  refine ⟨by rw [List.length_set]; omega, by omega, by omega, by omega, by rw [List.length_append, List.length_singleton]; omega, by omega, by omega, ?_, by omega, by omega⟩; rw [show ((n : Int) - 1).toNat = n - 1 from by omega]; exact List.getElem?_set_self (by omega)⟩, ⟨by have h := HE.out; rw [HJ.out, HK.out, if_pos rfl] at h; exact h⟩, BK, HNE, HO, ⟨by have h_ := HI.out; rw [← show altP (bt a0 J) = (⟨bt a0 J, false, false⟩ : S84) from altP_bt _ _, ← List.map_singleton, ← List.map_append] at h_; exact h_⟩, HS, HB⟩
                · have c92b0 : (bt a0 I == 92) = false := beq_eq_false_iff_ne.mpr d92
                  have HN := am_ (And.intro d124 (And.intro d42 (And.intro d63 d92)))
                  clear d92 d124 d42 d63
                  have HS0 := am_ (show xs[((n : Int) - 1).toNat]? = some (Ai, m, ci) from by have h_ := HL.out.2.2.2.2.2.2.2.1; have h2_ := HL.out.2.1; rw [show ((n : Int) - 1).toNat = n - 1 from by omega]; exact h_)
                  go_wp2_with (first | (go_at_call 54; refine (impl_put.calls (⟨bt a0 I, false, false⟩ : S84) gb g n c m ((n : Int) - 1) xs Ai ci (nw.map altP) w _ HB.out rfl (by have := HL.out; omega) (by have := HL.out; omega) (by rw [List.length_map]; exact HL.out.2.2.2.2.1) (by have := HL.out; omega) BK.out (cut_cell3 HO.out HS0.out) HO.out HI.out).mono ?_; rintro e w20 ⟨⟨v20, rfl⟩, hb, hbk, Aj, cj, hO, hI2, hk2, ho2⟩; have n0_ := am_ hb; have n1_ := am_ hbk; have n2_ := am_ hO; have n3_ := am_ hI2; have n4_ := am_ (rows_put (j := ((n : Int) - 1).toNat) HS.out (by have := HL.out; rw [List.length_map]; omega) hk2 ho2); clear HB BK HO HI HS; have HB := n0_; have BK := n1_; have HO := n2_; have HI := n3_; have HS := n4_; clear n0_ n1_ n2_ n3_ n4_ hb hbk hO hI2 hk2 ho2))
                  go_roundg (a0.size - (i + 1))
                  case measure => have h1_ := HIq.out; have h2_ := HL.out; have h3_ := HIL.out; omega
                  case rel => exact ⟨g, n, c, xs.set ((n : Int) - 1).toNat (Aj, m + 1, cj), Aj, m + 1, cj, o, nw ++ [bt a0 I], i + 1, (by first | rfl | (have h1_ := HIq.out; have h2_ := HL.out; have h3_ := HIL.out;  congr 1; unfold wrap64; omega)), ⟨by have h1_ := HIq.out; have h2_ := HL.out; have h3_ := HIL.out;  refine ⟨by rw [List.length_set]; omega, by omega, by omega, by omega, by rw [List.length_append, List.length_singleton]; omega, by omega, by omega, ?_, by omega, by omega⟩; rw [show ((n : Int) - 1).toNat = n - 1 from by omega]; exact List.getElem?_set_self (by omega)⟩, ⟨by rw [← HIq.out]; exact (altA_on (by have h1_ := HIq.out; have h3_ := HIL.out; omega) (by rw [HIq.out]; exact HN.out.1) (by rw [HIq.out]; exact HN.out.2.1) (by rw [HIq.out]; exact HN.out.2.2.1) (by rw [HIq.out]; exact HN.out.2.2.2)).symm.trans HA.out⟩, BK, HNE, HO, ⟨by have h_ := HI.out; rw [← show altP (bt a0 I) = (⟨bt a0 I, false, false⟩ : S84) from altP_bt _ _, ← List.map_singleton, ← List.map_append] at h_; exact h_⟩, HS, HB⟩
        · have c4b0 : decide (I < (a0.size : Int)) = false := decide_eq_false c4
          obtain ⟨rfl, rfl⟩ : qs = o ++ [nw] ∧ r2 = true := by have h := (altA_end (o := o) (nw := nw) (show ¬ i < a0.size by omega)).symm.trans HA.out; simp only [Prod.mk.injEq] at h; exact ⟨h.1.symm, h.2.symm⟩
          have HF := am_ (show Kd.S (Kd.slice 84 k84) 85 _ w.heap.size (fun _ => True) (.slice (some ⟨g, 0, none⟩) n c) r1 from by rw [← HQ.out, List.map_append, List.map_singleton]; exact rows_R (rows_snoc (ok := fun k => k ≠ g) rfl (rows_step HS.out (fun _ _ _ => rfl) (fun k_ hk _ => ⟨hk.2.1, hk.2.2⟩) (fun _ _ => rfl)) (by have h_ := HL.out.2.2.2.2.2.2.2.1; have h2_ := HL.out; rw [List.length_map, show o.length = n - 1 from by omega]; exact h_) (by rw [List.length_map]; exact HL.out.2.2.2.2.1) (Kd.R_mono HI.out (fun _ hk => hk.2))) (by have h2_ := HL.out; simp; omega) HO.out)
          clear c4 hI
          go_wp2
          go_ret2
          exact ⟨_, rf_, sq_ HF, bl_⟩
    · rw [if_neg hz] at h
      cases h

/-! ### impl_GoodPattern: function 45 -/
def impl_GoodPattern.f (k : Nat) (a0 : ByteArray) : Option (Bool) := (impl_alternatives.f k a0).bind fun bt1001 => (some bt1001.2)
theorem impl_GoodPattern.mono : ∀ a0 k, LeO (impl_GoodPattern.f k a0) (impl_GoodPattern.f (k + 1) a0) := by
 intro a0 k
 unfold impl_GoodPattern.f
 repeat' with_reducible first | apply impl_alternatives.mono | apply LeO.refl | apply LeO.none | apply LeO.ite | refine LeO.bind ?_ (fun _ => ?_)
set_option maxHeartbeats 8000000 in
set_option maxRecDepth 100000 in
theorem impl_GoodPattern.calls (k : Nat) (a0 : ByteArray) (r : Bool) (w : World) (h : impl_GoodPattern.f k a0 = some r) :
  Calls Tryd.prog 45 #[.string a0] w fun e w' => e = .returned (.bool r) ∧ Below w.heap.size w w' := by
 have HB := am_ (Below.refl w.heap.size w); have H := h; clear h; unfold impl_GoodPattern.f at H; replace H := bs_ H; obtain ⟨⟨t1001, t1002⟩, A2, H⟩ := H; replace H : (some t1002) = some r := H; obtain rfl := si_ H; go_enter Tryd.func45, Tryd.ntmps45; go_wp2_with (first | ((with_reducible refine gate_callee (f := 51) rfl ?_); refine gl_ 7 Tryd.func51 #[.string a0] ?_; (with_reducible refine (impl_alternatives.calls k a0 t1001 t1002 _ A2.out).mono ?_); rintro e w3 ⟨v1003, rfl, ho0, hb⟩; refine ⟨_, rfl, ?_⟩; have HO1004 := am_ (Kd.S_lower ho0 (below_size bl_)); replace HB := am_ (below_step bl_ hb); (try clear hb); (try clear ho0))); go_ret; exact ⟨rf_, bl_⟩

/-! ### impl_goodMatcher: function 34 -/
def impl_goodMatcher.f (k : Nat) (a0_0 : ByteArray) (a0_1 : Int) (a0_2 : ByteArray) : Option (Bool) := (impl_isName.f k a0_0).bind fun t1002 => (if t1002 = true then (if a0_1 < 1 then (some false) else (if a0_1 > 4 then (some false) else ((impl_printed.f k a0_2 100).bind fun t1003 => (if t1003 = true then (if a0_1 < 3 then (some true) else ((impl_GoodPattern.f k a0_2).bind fun t1004 => (some t1004))) else (some false))))) else (some false))
theorem impl_goodMatcher.mono : ∀ a0 a1 a2 k, LeO (impl_goodMatcher.f k a0 a1 a2) (impl_goodMatcher.f (k + 1) a0 a1 a2) := by
 intro a0 a1 a2 k
 unfold impl_goodMatcher.f
 repeat' with_reducible first | apply impl_GoodPattern.mono | apply impl_isName.mono | apply impl_printed.mono | apply LeO.refl | apply LeO.none | apply LeO.ite | refine LeO.bind ?_ (fun _ => ?_)
set_option maxHeartbeats 8000000 in
set_option maxRecDepth 100000 in
theorem impl_goodMatcher.calls (k : Nat) (a0_0 : ByteArray) (a0_1 : Int) (a0_2 : ByteArray) (r : Bool) (w : World) (h : impl_goodMatcher.f k a0_0 a0_1 a0_2 = some r) :
  Calls Tryd.prog 34 #[.agg #[.string a0_0, .int .i64 a0_1, .string a0_2]] w fun e w' => e = .returned (.bool r) ∧ Below w.heap.size w w' := by
 have hu35 := Tryd.underlying35; have HB := am_ (Below.refl w.heap.size w); have H := h; clear h; unfold impl_goodMatcher.f at H; replace H := bs_ H; obtain ⟨t1002, A2, H⟩ := H
 by_cases c3 : t1002 = true
 ·subst c3; replace H := it_ H
  by_cases c4 : a0_1 < 1
  ·rw [if_pos c4] at H; have c4b0 := decide_eq_true c4; clear c4; obtain rfl := si_ H; go_enter Tryd.func34, Tryd.ntmps34; go_wp2_with (first | ((with_reducible refine gate_dst (N := 1) rfl ?_); refine bx_ 1 #[.string a0_0, .int .i64 a0_1, .string a0_2] 35 ?_; intro gb1001 hg w5 hbox hb; have BK1001 := am_ (hbox); have GW1001 := am_ (gs_ hg : w.heap.size ≤ gb1001); replace HB := am_ (below_step bl_ hb); have GE1001 := GW1001; clear hb hbox hg; have hz6 := bk3_ BK1001) | ((with_reducible refine gate_callee (f := 43) rfl ?_); refine gl_ 5 Tryd.func43 #[.string a0_0] ?_; (with_reducible refine (impl_isName.calls k a0_0 true _ A2.out).mono ?_); rintro e w' ⟨rfl, ⟨nd, rfl⟩⟩; refine ⟨_, rfl, ?_⟩)); go_ret; exact ⟨rf_, bg_⟩
  ·rw [if_neg c4] at H; have c4b0 := decide_eq_false c4; clear c4
   by_cases c7 : a0_1 > 4
   ·rw [if_pos c7] at H; have c7b0 := dg_ c7; clear c7; obtain rfl := si_ H; go_enter Tryd.func34, Tryd.ntmps34; go_wp2_with (first | ((with_reducible refine gate_dst (N := 1) rfl ?_); refine bx_ 1 #[.string a0_0, .int .i64 a0_1, .string a0_2] 35 ?_; intro gb1001 hg w8 hbox hb; have BK1001 := am_ (hbox); have GW1001 := am_ (gs_ hg : w.heap.size ≤ gb1001); replace HB := am_ (below_step bl_ hb); have GE1001 := GW1001; clear hb hbox hg; have hz9 := bk3_ BK1001) | ((with_reducible refine gate_callee (f := 43) rfl ?_); refine gl_ 5 Tryd.func43 #[.string a0_0] ?_; (with_reducible refine (impl_isName.calls k a0_0 true _ A2.out).mono ?_); rintro e w' ⟨rfl, ⟨nd, rfl⟩⟩; refine ⟨_, rfl, ?_⟩)); go_ret; exact ⟨rf_, bg_⟩
   ·rw [if_neg c7] at H; have c7b0 := df_ c7; clear c7; replace H := bs_ H; obtain ⟨t1003, A10, H⟩ := H
    by_cases c11 : t1003 = true
    ·subst c11; replace H := it_ H
     by_cases c12 : a0_1 < 3
     ·rw [if_pos c12] at H; have c12b0 := decide_eq_true c12; clear c12; obtain rfl := si_ H; go_enter Tryd.func34, Tryd.ntmps34; go_wp2_with (first | ((with_reducible refine gate_dst (N := 1) rfl ?_); refine bx_ 1 #[.string a0_0, .int .i64 a0_1, .string a0_2] 35 ?_; intro gb1001 hg w13 hbox hb; have BK1001 := am_ (hbox); have GW1001 := am_ (gs_ hg : w.heap.size ≤ gb1001); replace HB := am_ (below_step bl_ hb); have GE1001 := GW1001; clear hb hbox hg; have hz14 := bk3_ BK1001) | ((with_reducible refine gate_callee (f := 43) rfl ?_); refine gl_ 5 Tryd.func43 #[.string a0_0] ?_; (with_reducible refine (impl_isName.calls k a0_0 true _ A2.out).mono ?_); rintro e w' ⟨rfl, ⟨nd, rfl⟩⟩; refine ⟨_, rfl, ?_⟩) | (go_at_call 44; (with_reducible refine (impl_printed.calls k a0_2 100 true _ A10.out).mono ?_); rintro e w' ⟨rfl, ⟨nd, rfl⟩⟩)); go_ret; exact ⟨rf_, bg_⟩
     ·rw [if_neg c12] at H; have c12b0 := decide_eq_false c12; clear c12; replace H := bs_ H; obtain ⟨t1004, A15, H⟩ := H; obtain rfl := si_ H; go_enter Tryd.func34, Tryd.ntmps34; go_wp2_with (first | ((with_reducible refine gate_dst (N := 1) rfl ?_); refine bx_ 1 #[.string a0_0, .int .i64 a0_1, .string a0_2] 35 ?_; intro gb1001 hg w16 hbox hb; have BK1001 := am_ (hbox); have GW1001 := am_ (gs_ hg : w.heap.size ≤ gb1001); replace HB := am_ (below_step bl_ hb); have GE1001 := GW1001; clear hb hbox hg; have hz17 := bk3_ BK1001) | ((with_reducible refine gate_callee (f := 43) rfl ?_); refine gl_ 5 Tryd.func43 #[.string a0_0] ?_; (with_reducible refine (impl_isName.calls k a0_0 true _ A2.out).mono ?_); rintro e w' ⟨rfl, ⟨nd, rfl⟩⟩; refine ⟨_, rfl, ?_⟩) | (go_at_call 44; (with_reducible refine (impl_printed.calls k a0_2 100 true _ A10.out).mono ?_); rintro e w' ⟨rfl, ⟨nd, rfl⟩⟩) | (go_at_call 45; (with_reducible refine (impl_GoodPattern.calls k a0_2 t1004 _ A15.out).mono ?_); rintro e w18 ⟨rfl, hb⟩; replace BK1001 := vb_ BK1001 hb; replace HB := am_ (below_step bg_ hb); (try clear hb))); go_ret; exact ⟨rf_, bg_⟩
    ·replace c11 := Bool.eq_false_iff.mpr c11; subst c11; replace H := if_ H; obtain rfl := si_ H; go_enter Tryd.func34, Tryd.ntmps34; go_wp2_with (first | ((with_reducible refine gate_dst (N := 1) rfl ?_); refine bx_ 1 #[.string a0_0, .int .i64 a0_1, .string a0_2] 35 ?_; intro gb1001 hg w19 hbox hb; have BK1001 := am_ (hbox); have GW1001 := am_ (gs_ hg : w.heap.size ≤ gb1001); replace HB := am_ (below_step bl_ hb); have GE1001 := GW1001; clear hb hbox hg; have hz20 := bk3_ BK1001) | ((with_reducible refine gate_callee (f := 43) rfl ?_); refine gl_ 5 Tryd.func43 #[.string a0_0] ?_; (with_reducible refine (impl_isName.calls k a0_0 true _ A2.out).mono ?_); rintro e w' ⟨rfl, ⟨nd, rfl⟩⟩; refine ⟨_, rfl, ?_⟩) | (go_at_call 44; (with_reducible refine (impl_printed.calls k a0_2 100 false _ A10.out).mono ?_); rintro e w' ⟨rfl, ⟨nd, rfl⟩⟩)); go_ret; exact ⟨rf_, bg_⟩
 ·replace c3 := Bool.eq_false_iff.mpr c3; subst c3; replace H := if_ H; obtain rfl := si_ H; go_enter Tryd.func34, Tryd.ntmps34; go_wp2_with (first | ((with_reducible refine gate_dst (N := 1) rfl ?_); refine bx_ 1 #[.string a0_0, .int .i64 a0_1, .string a0_2] 35 ?_; intro gb1001 hg w21 hbox hb; have BK1001 := am_ (hbox); have GW1001 := am_ (gs_ hg : w.heap.size ≤ gb1001); replace HB := am_ (below_step bl_ hb); have GE1001 := GW1001; clear hb hbox hg; have hz22 := bk3_ BK1001) | ((with_reducible refine gate_callee (f := 43) rfl ?_); refine gl_ 5 Tryd.func43 #[.string a0_0] ?_; (with_reducible refine (impl_isName.calls k a0_0 false _ A2.out).mono ?_); rintro e w' ⟨rfl, ⟨nd, rfl⟩⟩; refine ⟨_, rfl, ?_⟩)); go_ret; exact ⟨rf_, bg_⟩

/-! ### impl_takeMatcher: function 21 -/
def impl_takeMatcher.el (i : Int) : Int := if i = 0 then 2 else if i = 1 then 3 else if i = 2 then 4 else if i = 3 then 1 else -1
theorem impl_takeMatcher.run_bu : ∀ w : World, (Instr.build 54 #[(0, .int .i64 2), (1, .int .i64 3), (2, .int .i64 4), (3, .int .i64 1)]).run Tryd.prog w = .ok (.agg #[.int .i64 2, .int .i64 3, .int .i64 4, .int .i64 1]) w := fun _ => by kernel_rfl
theorem impl_takeMatcher.run_el (x j : Int) (h : impl_takeMatcher.el x = j) (h0 : 0 ≤ j) : ∀ w : World, (Instr.index 54 (.agg #[.int .i64 2, .int .i64 3, .int .i64 4, .int .i64 1]) (.int .i64 x)).run Tryd.prog w = .ok (.int .i64 j) w := by
  unfold impl_takeMatcher.el at h
  by_cases e2 : x = 0
  · subst e2
    obtain rfl : 2 = j := h
    exact fun _ => by kernel_rfl
  by_cases e3 : x = 1
  · subst e3
    obtain rfl : 3 = j := h
    exact fun _ => by kernel_rfl
  by_cases e4 : x = 2
  · subst e4
    obtain rfl : 4 = j := h
    exact fun _ => by kernel_rfl
  by_cases e1 : x = 3
  · subst e1
    obtain rfl : 1 = j := h
    exact fun _ => by kernel_rfl
  rw [if_neg e2, if_neg e3, if_neg e4, if_neg e1] at h
  omega
def impl_takeMatcher.l0 : Nat → ByteArray → Int → ByteArray → Int → ByteArray → Option (ByteArray × Int × ByteArray × ByteArray × Bool)
 | 0, _, _, _, _, _ => none
 | k + 1, x0, x17, x1003000, x1003001, x1003002 => if x17 < 4 then (if 0 ≤ (impl_takeMatcher.el x17) then (if (impl_takeMatcher.el x17) < 5 then ((strings_CutPrefix.f x0 (rdOf ByteArray.empty lT0 (impl_takeMatcher.el x17))).bind fun bt1006 => (if bt1006.2 = true then ((impl_unquote.f k bt1006.1).bind fun bt1008 => (if bt1008.2.2 = true then ((impl_goodMatcher.f k x1003000 (impl_takeMatcher.el x17) bt1008.1).bind fun t1011 => (some (x1003000, impl_takeMatcher.el x17, bt1008.1, bt1008.2.1, t1011))) else (some (x1003000, impl_takeMatcher.el x17, bt1008.1, bt1008.2.1, false)))) else (impl_takeMatcher.l0 k x0 (wrap64 (x17 + 1)) x1003000 x1003001 x1003002))) else (none)) else (none)) else (some (x1003000, x1003001, x1003002, x0, false))
def impl_takeMatcher.f (k : Nat) (a0 : ByteArray) : Option (ByteArray × Int × ByteArray × ByteArray × Bool) := (impl_wordOf.f k a0).bind fun bt1003 => (impl_takeMatcher.l0 k bt1003.2 0 bt1003.1 0 (⟨#[]⟩ : ByteArray))
theorem impl_takeMatcher.mono_l : ∀ k, (∀ y0 y1 y2 y3 y4, LeO (impl_takeMatcher.l0 k y0 y1 y2 y3 y4) (impl_takeMatcher.l0 (k + 1) y0 y1 y2 y3 y4))
 | 0 => fun _ _ _ _ _ r h => by simp [impl_takeMatcher.l0] at h
 | k + 1 => by
  have ih0 := impl_takeMatcher.mono_l k
  ·intro y0 y1 y2 y3 y4
   unfold impl_takeMatcher.l0
   repeat' with_reducible first | apply ih0 | apply impl_goodMatcher.mono | apply impl_unquote.mono | apply impl_wordOf.mono | apply LeO.refl | apply LeO.none | apply LeO.ite | refine LeO.bind ?_ (fun _ => ?_)
theorem impl_takeMatcher.mono : ∀ a0 k, LeO (impl_takeMatcher.f k a0) (impl_takeMatcher.f (k + 1) a0) := by
 intro a0 k
 have ih0 := impl_takeMatcher.mono_l k
 unfold impl_takeMatcher.f
 repeat' with_reducible first | apply ih0 | apply impl_goodMatcher.mono | apply impl_unquote.mono | apply impl_wordOf.mono | apply LeO.refl | apply LeO.none | apply LeO.ite | refine LeO.bind ?_ (fun _ => ?_)
def impl_takeMatcher.T10 : Bool × List (List Nat × List Nat) := (true, [([], []), ([], []), ([], []), ([2], [2]), ([3], [3]), ([4, 3, 3], [3, 4]), ([3, 5], [3, 5]), ([0, 5, 0], [0]), ([1, 7, 0, 1, 7], [1]), ([6, 8, 0, 1, 2, 3, 4, 5, 6, 7, 8], [6])])
def impl_takeMatcher.B10 : List Nat := [0, 0, 0, 4, 12, 28, 60, 61, 191, 511]
theorem impl_takeMatcher.tab10 : rtab .any (opsOf Tryd.f21 10) = impl_takeMatcher.T10 := by kernel_rfl
theorem impl_takeMatcher.bits10 : waitsOk impl_takeMatcher.T10.2 impl_takeMatcher.B10 = true := by kernel_rfl
set_option maxHeartbeats 8000000 in
set_option maxRecDepth 100000 in
theorem impl_takeMatcher.calls (k : Nat) (a0 : ByteArray) (r1 : ByteArray) (r2 : Int) (r3 : ByteArray) (r4 : ByteArray) (r5 : Bool) (w : World) (h : impl_takeMatcher.f k a0 = some (r1, r2, r3, r4, r5)) (hT0 : Tg0 w := by exact Tg0.below hT0 bg_) :
  Calls Tryd.prog 21 #[.string a0] w fun e w' => e = .returned (.tuple #[.agg #[.string r1, .int .i64 r2, .string r3], .string r4, .bool r5]) ∧ Below w.heap.size w w' := by
 have HRT0 := am_ hT0.c; have hu35 := Tryd.underlying35; have HB := am_ (Below.refl w.heap.size w); have H : ((impl_wordOf.f k a0).bind fun bt1003 => (impl_takeMatcher.l0 k bt1003.2 0 bt1003.1 0 (⟨#[]⟩ : ByteArray))) = some (r1, r2, r3, r4, r5) := h; clear h; replace H := Option.bind_eq_some_iff.mp H; obtain ⟨⟨t1003, t1004⟩, A20, H⟩ := H; replace H : (impl_takeMatcher.l0 k t1004 0 t1003 0 (⟨#[]⟩ : ByteArray)) = some (r1, r2, r3, r4, r5) := H; have A2 := am_ A20; clear A20; have H' := am_ H; clear H; have hbu_ := impl_takeMatcher.run_bu; go_enter Tryd.func21, Tryd.ntmps21; go_wp2_with (first | ((with_reducible refine gate_dst (N := 2) rfl ?_); refine bx_ 2 #[.string (⟨#[]⟩ : ByteArray), .int .i64 0, .string (⟨#[]⟩ : ByteArray)] 35 ?_; intro gb1001 hg w3 hbox hb; have BK1001 := am_ (hbox); have GW1001 := am_ (gs_ hg : w.heap.size ≤ gb1001); replace HB := am_ (below_step bl_ hb); have GE1001 := GW1001; clear hb hbox hg) | ((with_reducible refine gate_dst (N := 5) rfl ?_); refine bx_ 5 #[.string (⟨#[]⟩ : ByteArray), .int .i64 0, .string (⟨#[]⟩ : ByteArray)] 35 ?_; intro gb1002 hg w4 hbox hb; have BK1002 := am_ (hbox); have GW1002 := am_ (gg_ hg : w.heap.size ≤ gb1002); have NB1001_1002 := nl_ BK1001 hg; have NB1002_1001 := nr_ BK1001 hg; replace BK1001 := vb_ BK1001 hb; replace HB := am_ (below_step bg_ hb); have GE1002 := GW1002; clear hb hbox hg) | ((with_reducible refine gate_callee (f := 32) rfl ?_); refine gl_ 12 Tryd.func32 #[.string a0] ?_; (with_reducible refine (impl_wordOf.calls k a0 t1003 t1004 _ A2.out).mono ?_); rintro e w' ⟨rfl, ⟨nd, rfl⟩⟩; refine ⟨_, rfl, ?_⟩; (try (rw [drewN_self w4]; generalize hq_ : World.drewN w4 _ = w4; have n0_ : Aside0 (w4.heap[gb1001]? = some (.cells #[.string (⟨#[]⟩ : ByteArray), .int .i64 0, .string (⟨#[]⟩ : ByteArray)] 35 (0, 0))) := ⟨by rw [← hq_]; exact (vk_ BK1001)⟩; have n1_ : Aside0 (w4.heap[gb1002]? = some (.cells #[.string (⟨#[]⟩ : ByteArray), .int .i64 0, .string (⟨#[]⟩ : ByteArray)] 35 (0, 0))) := ⟨by rw [← hq_]; exact (vk_ BK1002)⟩; have n2_ : Aside0 (Below w.heap.size w w4) := ⟨by rw [← hq_]; exact bg_⟩; clear BK1001 BK1002 HB hq_; have BK1001 := n0_; have BK1002 := n1_; have HB := n2_; clear n0_ n1_ n2_)); have hnb5 := NB1002_1001.out; have hnc5 := NB1001_1002.out; have hz6 := bk3_ BK1002))
 go_loopg [17] k (fun kq v17 w' => ∃ (x17_1 : Int) (x1002000_1 : ByteArray) (x1002001_1 : Int) (x1002002_1 : ByteArray) (x1003001_1 : Int) (x1003002_1 : ByteArray), v17 = .int .i64 x17_1 ∧ Aside0 (impl_takeMatcher.l0 kq t1004 x17_1 t1003 x1003001_1 x1003002_1 = some (r1, r2, r3, r4, r5)) ∧ Aside0 (kq ≤ k) ∧ Aside0 (w'.heap[gb1001]? = some (.cells #[.string x1002000_1, .int .i64 x1002001_1, .string x1002002_1] 35 (0, 0))) ∧ Aside0 (w'.heap[gb1002]? = some (.cells #[.string t1003, .int .i64 x1003001_1, .string x1003002_1] 35 (0, 0))) ∧ Aside0 (Below w.heap.size w w'))
 case atStart => exact ⟨(0), ((⟨#[]⟩ : ByteArray)), (0), ((⟨#[]⟩ : ByteArray)), (0), ((⟨#[]⟩ : ByteArray)), rs_, H', ⟨Nat.le_refl _⟩, ⟨vf_ BK1001⟩, ⟨by (with_reducible repeat (first | refine blk_drewN ?_ _ | refine blk_drew ?_ | refine blk_alloc ?_ _)); refine blk_put (cs := #[.string (⟨#[]⟩ : ByteArray), .int .i64 0, .string (⟨#[]⟩ : ByteArray)]) ?_ 0 _ rfl; (with_reducible repeat (first | refine blk_drewN ?_ _ | refine blk_drew ?_ | refine blk_alloc ?_ _)); exact BK1002.out⟩, ⟨bg_⟩⟩
 case round =>
  clear H'; (try clear hz6); obtain ⟨x17_1, x1002000_1, x1002001_1, x1002002_1, x1003001_1, x1003002_1, rfl, HA, HK1, BK1001, BK1002, HB⟩ := hrel
  cases gk with
  | zero => exact absurd HA.out (by simp [impl_takeMatcher.l0])
  | succ k1 =>
   have H := HA.out; clear HA; simp only [impl_takeMatcher.l0] at H
   by_cases c7 : x17_1 < 4
   ·rw [if_pos c7] at H; have c7b0 := decide_eq_true c7; clear c7; obtain ⟨ji8, hji8⟩ : ∃ j_ : Int, (impl_takeMatcher.el x17_1) = j_ := ⟨_, rfl⟩; replace H : (if 0 ≤ (ji8) then (if (ji8) < 5 then ((strings_CutPrefix.f t1004 (rdOf ByteArray.empty lT0 (ji8))).bind fun bt1006 => (if bt1006.2 = true then ((impl_unquote.f k1 bt1006.1).bind fun bt1008 => (if bt1008.2.2 = true then ((impl_goodMatcher.f k1 t1003 (ji8) bt1008.1).bind fun t1011 => (some (t1003, ji8, bt1008.1, bt1008.2.1, t1011))) else (some (t1003, ji8, bt1008.1, bt1008.2.1, false)))) else (impl_takeMatcher.l0 k1 t1004 (wrap64 (x17_1 + 1)) t1003 x1003001_1 x1003002_1))) else (none)) else (none)) = some (r1, r2, r3, r4, r5) := by first | (rw [hji8] at H; exact H) | (simp only [hji8] at H ⊢; exact H)
    replace H := is_ H; obtain ⟨c9, H⟩ := H; have c9b0 := decide_eq_true c9; have hel_ := impl_takeMatcher.run_el x17_1 ji8 hji8 c9; clear c9; replace H := is_ H; obtain ⟨c10, H⟩ := H; have c10b0 := decide_eq_true c10; clear c10; replace H := Option.bind_eq_some_iff.mp H; obtain ⟨⟨t1006, t1007⟩, A110, H⟩ := H; replace H : (if t1007 = true then ((impl_unquote.f k1 t1006).bind fun bt1008 => (if bt1008.2.2 = true then ((impl_goodMatcher.f k1 t1003 (ji8) bt1008.1).bind fun t1011 => (some (t1003, ji8, bt1008.1, bt1008.2.1, t1011))) else (some (t1003, ji8, bt1008.1, bt1008.2.1, false)))) else (impl_takeMatcher.l0 k1 t1004 (wrap64 (x17_1 + 1)) t1003 x1003001_1 x1003002_1)) = some (r1, r2, r3, r4, r5) := H; have A11 := am_ A110; clear A110
    by_cases c12 : t1007 = true
    ·subst c12; replace H := it_ H; replace H := Option.bind_eq_some_iff.mp H; obtain ⟨⟨t1008, t1009, t1010⟩, A130, H⟩ := H; replace H : (if t1010 = true then ((impl_goodMatcher.f k1 t1003 (ji8) t1008).bind fun t1011 => (some (t1003, ji8, t1008, t1009, t1011))) else (some (t1003, ji8, t1008, t1009, false))) = some (r1, r2, r3, r4, r5) := H; have A13 := am_ A130; clear A130
     by_cases c14 : t1010 = true
     ·subst c14; replace H := it_ H; replace H := Option.bind_eq_some_iff.mp H; obtain ⟨t1011, A150, H⟩ := H; replace H : (some (t1003, ji8, t1008, t1009, t1011)) = some (r1, r2, r3, r4, r5) := H; have A15 := am_ A150; clear A150; simp only [Option.some.injEq, Prod.mk.injEq] at H; obtain ⟨rfl, rfl, rfl, rfl, rfl⟩ := H; have p1005 : 0 ≤ ((ji8) : Int) := od_; have q1005 : (ji8) < (lT0.length : Int) := od_; have ql1005 : (((ji8) : Int) < (5 : Int)) = True := eq_true (od_); obtain ⟨ad1005, e1005, hx1005_0⟩ := Kd.at_string HRT0.out (ji8) p1005 q1005; obtain rfl : (⟨0, 0, none⟩ : Addr) = ad1005 := (by injection e1005); (first | simp only [add_plain] at hx1005_0 | simp only [add_at] at hx1005_0 | simp only [Addr.add, Nat.zero_add] at hx1005_0 | skip); (try simp only [Nat.zero_add] at hx1005_0); have hw1005_0 := hx1005_0; replace hx1005_0 := kp_ HB hx1005_0; replace p1005 := eq_true p1005; replace q1005 := eq_true q1005; (try go_wp2_with (first | ((with_reducible refine gate_callee (f := 19) rfl ?_); refine goesL_ (some 25) rfl rfl Tryd.func19 (by kernel_rfl) rfl #[.string t1004, .string (rdOf ByteArray.empty lT0 (ji8))] rfl (by (try simp only [List.map_toArray, List.map_cons, List.map_nil]); first | done | (simp only [hji8]; rfl) | rfl | (simp only [List.length_drop, List.length_take]; rfl)) ?_; (with_reducible refine (strings_CutPrefix.calls t1004 (rdOf ByteArray.empty lT0 (ji8)) t1006 true _ A11.out).mono ?_); rintro e w' ⟨rfl, ⟨nd, rfl⟩⟩; refine ⟨_, rfl, ?_⟩; (try (rw [drewN_self wr]; generalize hq_ : World.drewN wr _ = wr; have n0_ : Aside0 (wr.heap[gb1001]? = some (.cells #[.string x1002000_1, .int .i64 x1002001_1, .string x1002002_1] 35 (0, 0))) := ⟨by rw [← hq_]; exact (vk_ BK1001)⟩; have n1_ : Aside0 (wr.heap[gb1002]? = some (.cells #[.string t1003, .int .i64 x1003001_1, .string x1003002_1] 35 (0, 0))) := ⟨by rw [← hq_]; exact (vk_ BK1002)⟩; have n2_ : Aside0 (Below w.heap.size w wr) := ⟨by rw [← hq_]; exact bg_⟩; clear BK1001 BK1002 HB hq_; have BK1001 := n0_; have BK1002 := n1_; have HB := n2_; clear n0_ n1_ n2_)); have hnb16 := NB1002_1001.out; have hnc16 := NB1001_1002.out; have hz17 := bk3_ BK1002) | ((with_reducible refine gate_callee (f := 33) rfl ?_); refine gl_ 33 Tryd.func33 #[.string t1006] ?_; (with_reducible refine (impl_unquote.calls k1 t1006 t1008 t1009 true _ A13.out).mono ?_); rintro e w18 ⟨rfl, hb⟩; refine ⟨_, rfl, ?_⟩; replace BK1001 := am_ (blk_below (g := gb1001) (o := .cells #[.string x1002000_1, .int .i64 x1002001_1, .string x1002002_1] 35 (0, 0)) (vf_ BK1001) hb); replace BK1002 := am_ (blk_below (g := gb1002) (o := .cells #[.string t1003, .int .i64 ji8, .string x1003002_1] 35 (0, 0)) (by (with_reducible repeat (first | refine blk_drewN ?_ _ | refine blk_drew ?_ | refine blk_alloc ?_ _)); refine blk_put (cs := #[.string t1003, .int .i64 x1003001_1, .string x1003002_1]) ?_ 1 _ rfl; (with_reducible repeat (first | refine blk_drewN ?_ _ | refine blk_drew ?_ | refine blk_alloc ?_ _)); exact BK1002.out) hb); replace HB := am_ (below_step bg_ hb); (try clear hb); have hz19 := bk3_ BK1002))); have n0_ : Aside0 ((w18.setCell ⟨gb1002, 2, none⟩ (.string t1008)).heap[gb1001]? = some (.cells #[.string x1002000_1, .int .i64 x1002001_1, .string x1002002_1] 35 (0, 0))) := ⟨vf_ BK1001⟩; have n1_ : Aside0 ((w18.setCell ⟨gb1002, 2, none⟩ (.string t1008)).heap[gb1002]? = some (.cells #[.string t1003, .int .i64 ji8, .string t1008] 35 (0, 0))) := ⟨by (with_reducible repeat (first | refine blk_drewN ?_ _ | refine blk_drew ?_ | refine blk_alloc ?_ _)); refine blk_put (cs := #[.string t1003, .int .i64 ji8, .string x1003002_1]) ?_ 2 _ rfl; (with_reducible repeat (first | refine blk_drewN ?_ _ | refine blk_drew ?_ | refine blk_alloc ?_ _)); exact BK1002.out⟩; have n2_ : Aside0 (Below w.heap.size w (w18.setCell ⟨gb1002, 2, none⟩ (.string t1008))) := ⟨bg_⟩; (try clear BK1001); (try clear BK1002); (try clear HB); generalize (w18.setCell ⟨gb1002, 2, none⟩ (.string t1008)) = w20 at n0_ n1_ n2_ ⊢; have BK1001 := n0_; have BK1002 := n1_; have HB := n2_; clear n0_ n1_ n2_; have n0_ := am_ (blk_drew BK1001.out); have n1_ := am_ (blk_drew BK1002.out); have n2_ := am_ (below_drew1 HB.out); clear BK1001; clear BK1002; clear HB; have BK1001 := n0_; have BK1002 := n1_; have HB := n2_; clear n0_ n1_ n2_; refine start_ (n := 10) (S := fun w' => w'.cell? ⟨gb1002, 0, none⟩ = some (.string t1003) ∧ w'.cell? ⟨gb1002, 1, none⟩ = some (.int .i64 ji8) ∧ w'.cell? ⟨gb1002, 2, none⟩ = some (.string t1008)) (ds := []) (bz 10 0) (by kernel_rfl) rfl rfl ⟨(blk_cell BK1002.out 0).trans rfl, (blk_cell BK1002.out 1).trans rfl, (blk_cell BK1002.out 2).trans rfl⟩ (fun hHeld => ?_); refine with_tabW impl_takeMatcher.tab10 impl_takeMatcher.bits10 (fun HT_ HW_ => ?_); generalize w20.drew = w21 at BK1001 BK1002 HB hHeld ⊢; refine pz_ 1 39 2 ?_; refine pz_ 2 40 6 ?_; refine pz_ 3 41 14 ?_; refine tz_ 0 38 15 ?_; refine tz_ 4 42 31 ?_; refine one_ (i := 5) (N := some 43) (bz 10 63) rfl rfl (one_of HT_.out (by kernel_rfl)) (by decide) (fun K hK => ?_); refine goes_ Tryd.func34 (by kernel_rfl) rfl #[.agg #[.string t1003, .int .i64 ji8, .string t1008]] (by rfl) rfl rfl (by (try simp only [List.map_toArray, List.map_cons, List.map_nil]); first | done | (simp only [hji8]; rfl) | rfl | (simp only [List.length_drop, List.length_take]; rfl)) ?_; (with_reducible refine (impl_goodMatcher.calls k1 t1003 ji8 t1008 t1011 _ A15.out).mono ?_); rintro e w22 ⟨rfl, hb⟩; refine ⟨_, rfl, ?_⟩; have n0_ := am_ (blk_below (g := gb1001) (vk_ BK1001) hb); have n1_ := am_ (blk_below (g := gb1002) (vk_ BK1002) hb); have n2_ := am_ (below_step bg_ hb); clear BK1001; clear BK1002; clear HB; have BK1001 := n0_; have BK1002 := n1_; have HB := n2_; clear n0_ n1_ n2_; (try clear hb); (try clear hb2); (try clear hk); (try clear hi); refine hK.out _ _ ⟨(blk_cell BK1002.out 0).trans rfl, (blk_cell BK1002.out 1).trans rfl, (blk_cell BK1002.out 2).trans rfl⟩ (fun hHeld => ?_); clear hK K; refine norm_ (a' := ?_) ?_ ?_; rotate_left
      ·show Act.put _ (some 43) _ = _; simp only [Act.put, List.setIfInBounds_toArray, List.set_cons_zero, List.set_cons_succ, i64_w, i32_w]; rfl
      refine pz_ 6 44 127 ?_; refine one_ (i := 7) (N := none) (bz 10 255) rfl rfl (one_of HT_.out (by kernel_rfl)) (by decide) (fun K hK => ?_); have hs23 : w22.cell? ⟨gb1001, 0, none⟩ = some (.string x1002000_1) := (blk_cell BK1001.out 0).trans rfl; have hfs23 := bf_ BK1001 0; have hns23_1 := NB1002_1001.out; have hms23_1 := NB1001_1002.out; have hs24 : w22.cell? ⟨gb1001, 1, none⟩ = some (.int .i64 x1002001_1) := (blk_cell BK1001.out 1).trans rfl; have hfs24 := bf_ BK1001 1; have hns24_1 := NB1002_1001.out; have hms24_1 := NB1001_1002.out; have hs25 : w22.cell? ⟨gb1001, 2, none⟩ = some (.string x1002002_1) := (blk_cell BK1001.out 2).trans rfl; have hfs25 := bf_ BK1001 2; have hns25_1 := NB1002_1001.out; have hms25_1 := NB1001_1002.out; refine skip_ (w1 := ?_) (by rfl) rfl ?_ ?_; rotate_left
      ·go_simp; rfl
      refine hK.out _ _ ⟨((cell_far (p := ⟨gb1001, _, none⟩) NB1002_1001.out _).trans (((cell_far (p := ⟨gb1001, _, none⟩) NB1002_1001.out _).trans (((cell_far (p := ⟨gb1001, _, none⟩) NB1002_1001.out _).trans (hHeld.1)))))), ((cell_far (p := ⟨gb1001, _, none⟩) NB1002_1001.out _).trans (((cell_far (p := ⟨gb1001, _, none⟩) NB1002_1001.out _).trans (((cell_far (p := ⟨gb1001, _, none⟩) NB1002_1001.out _).trans (hHeld.2.1)))))), ((cell_far (p := ⟨gb1001, _, none⟩) NB1002_1001.out _).trans (((cell_far (p := ⟨gb1001, _, none⟩) NB1002_1001.out _).trans (((cell_far (p := ⟨gb1001, _, none⟩) NB1002_1001.out _).trans (hHeld.2.2))))))⟩ (fun hHeld => ?_); clear hK K; refine pz_ 8 3 511 ?_; refine pz_ 9 4 1023 ?_; refine done_ (done_of HT_.out (by kernel_rfl)) ?_; (try go_wp2); refine bodyPost_ret (results_ctt rfl _ _ gb1001 35 #[.string t1003, .int .i64 ji8, .string t1008] (0, 0) _ rfl (by (with_reducible repeat (first | refine blk_drewN ?_ _ | refine blk_drew ?_ | refine blk_alloc ?_ _)); refine blk_put (cs := #[.string t1003, .int .i64 ji8, .string x1002002_1]) ?_ 2 _ rfl; (with_reducible repeat (first | refine blk_drewN ?_ _ | refine blk_drew ?_ | refine blk_alloc ?_ _)); refine blk_put (cs := #[.string t1003, .int .i64 x1002001_1, .string x1002002_1]) ?_ 1 _ rfl; (with_reducible repeat (first | refine blk_drewN ?_ _ | refine blk_drew ?_ | refine blk_alloc ?_ _)); refine blk_put (cs := #[.string x1002000_1, .int .i64 x1002001_1, .string x1002002_1]) ?_ 0 _ rfl; (with_reducible repeat (first | refine blk_drewN ?_ _ | refine blk_drew ?_ | refine blk_alloc ?_ _)); exact BK1001.out) Tryd.underlying35 rfl (by kernel_rfl)) rfl ?_; exact ⟨by first | rfl | (simp [errW_none, errW_some] <;> rfl) | (simp only [← hji8]; first | rfl | (simp [errW_none, errW_some] <;> rfl)) | (simp [*, errW_none, errW_some] <;> rfl) | (simp [*, Go.Proofs.YtlibcibpflfboaaDoor.Gt.nil_bne]; done), bg_⟩
     ·replace c14 := Bool.eq_false_iff.mpr c14; subst c14; replace H := if_ H; simp only [Option.some.injEq, Prod.mk.injEq] at H; obtain ⟨rfl, rfl, rfl, rfl, rfl⟩ := H; have p1005 : 0 ≤ ((ji8) : Int) := od_; have q1005 : (ji8) < (lT0.length : Int) := od_; have ql1005 : (((ji8) : Int) < (5 : Int)) = True := eq_true (od_); obtain ⟨ad1005, e1005, hx1005_0⟩ := Kd.at_string HRT0.out (ji8) p1005 q1005; obtain rfl : (⟨0, 0, none⟩ : Addr) = ad1005 := (by injection e1005); (first | simp only [add_plain] at hx1005_0 | simp only [add_at] at hx1005_0 | simp only [Addr.add, Nat.zero_add] at hx1005_0 | skip); (try simp only [Nat.zero_add] at hx1005_0); have hw1005_0 := hx1005_0; replace hx1005_0 := kp_ HB hx1005_0; replace p1005 := eq_true p1005; replace q1005 := eq_true q1005; (try go_wp2_with (first | ((with_reducible refine gate_callee (f := 19) rfl ?_); refine goesL_ (some 25) rfl rfl Tryd.func19 (by kernel_rfl) rfl #[.string t1004, .string (rdOf ByteArray.empty lT0 (ji8))] rfl (by (try simp only [List.map_toArray, List.map_cons, List.map_nil]); first | done | (simp only [hji8]; rfl) | rfl | (simp only [List.length_drop, List.length_take]; rfl)) ?_; (with_reducible refine (strings_CutPrefix.calls t1004 (rdOf ByteArray.empty lT0 (ji8)) t1006 true _ A11.out).mono ?_); rintro e w' ⟨rfl, ⟨nd, rfl⟩⟩; refine ⟨_, rfl, ?_⟩; (try (rw [drewN_self wr]; generalize hq_ : World.drewN wr _ = wr; have n0_ : Aside0 (wr.heap[gb1001]? = some (.cells #[.string x1002000_1, .int .i64 x1002001_1, .string x1002002_1] 35 (0, 0))) := ⟨by rw [← hq_]; exact (vk_ BK1001)⟩; have n1_ : Aside0 (wr.heap[gb1002]? = some (.cells #[.string t1003, .int .i64 x1003001_1, .string x1003002_1] 35 (0, 0))) := ⟨by rw [← hq_]; exact (vk_ BK1002)⟩; have n2_ : Aside0 (Below w.heap.size w wr) := ⟨by rw [← hq_]; exact bg_⟩; clear BK1001 BK1002 HB hq_; have BK1001 := n0_; have BK1002 := n1_; have HB := n2_; clear n0_ n1_ n2_)); have hnb26 := NB1002_1001.out; have hnc26 := NB1001_1002.out; have hz27 := bk3_ BK1002) | ((with_reducible refine gate_callee (f := 33) rfl ?_); refine gl_ 33 Tryd.func33 #[.string t1006] ?_; (with_reducible refine (impl_unquote.calls k1 t1006 t1008 t1009 false _ A13.out).mono ?_); rintro e w28 ⟨rfl, hb⟩; refine ⟨_, rfl, ?_⟩; replace BK1001 := am_ (blk_below (g := gb1001) (o := .cells #[.string x1002000_1, .int .i64 x1002001_1, .string x1002002_1] 35 (0, 0)) (vf_ BK1001) hb); replace BK1002 := am_ (blk_below (g := gb1002) (o := .cells #[.string t1003, .int .i64 ji8, .string x1003002_1] 35 (0, 0)) (by (with_reducible repeat (first | refine blk_drewN ?_ _ | refine blk_drew ?_ | refine blk_alloc ?_ _)); refine blk_put (cs := #[.string t1003, .int .i64 x1003001_1, .string x1003002_1]) ?_ 1 _ rfl; (with_reducible repeat (first | refine blk_drewN ?_ _ | refine blk_drew ?_ | refine blk_alloc ?_ _)); exact BK1002.out) hb); replace HB := am_ (below_step bg_ hb); (try clear hb); have hz29 := bk3_ BK1002))); have n0_ : Aside0 ((w28.setCell ⟨gb1002, 2, none⟩ (.string t1008)).heap[gb1001]? = some (.cells #[.string x1002000_1, .int .i64 x1002001_1, .string x1002002_1] 35 (0, 0))) := ⟨vf_ BK1001⟩; have n1_ : Aside0 ((w28.setCell ⟨gb1002, 2, none⟩ (.string t1008)).heap[gb1002]? = some (.cells #[.string t1003, .int .i64 ji8, .string t1008] 35 (0, 0))) := ⟨by (with_reducible repeat (first | refine blk_drewN ?_ _ | refine blk_drew ?_ | refine blk_alloc ?_ _)); refine blk_put (cs := #[.string t1003, .int .i64 ji8, .string x1003002_1]) ?_ 2 _ rfl; (with_reducible repeat (first | refine blk_drewN ?_ _ | refine blk_drew ?_ | refine blk_alloc ?_ _)); exact BK1002.out⟩; have n2_ : Aside0 (Below w.heap.size w (w28.setCell ⟨gb1002, 2, none⟩ (.string t1008))) := ⟨bg_⟩; (try clear BK1001); (try clear BK1002); (try clear HB); generalize (w28.setCell ⟨gb1002, 2, none⟩ (.string t1008)) = w30 at n0_ n1_ n2_ ⊢; have BK1001 := n0_; have BK1002 := n1_; have HB := n2_; clear n0_ n1_ n2_; have n0_ := am_ (blk_drew BK1001.out); have n1_ := am_ (blk_drew BK1002.out); have n2_ := am_ (below_drew1 HB.out); clear BK1001; clear BK1002; clear HB; have BK1001 := n0_; have BK1002 := n1_; have HB := n2_; clear n0_ n1_ n2_; refine start_ (n := 10) (S := fun w' => w'.cell? ⟨gb1002, 0, none⟩ = some (.string t1003) ∧ w'.cell? ⟨gb1002, 1, none⟩ = some (.int .i64 ji8) ∧ w'.cell? ⟨gb1002, 2, none⟩ = some (.string t1008)) (ds := []) (bz 10 0) (by kernel_rfl) rfl rfl ⟨(blk_cell BK1002.out 0).trans rfl, (blk_cell BK1002.out 1).trans rfl, (blk_cell BK1002.out 2).trans rfl⟩ (fun hHeld => ?_); refine with_tabW impl_takeMatcher.tab10 impl_takeMatcher.bits10 (fun HT_ HW_ => ?_); generalize w30.drew = w31 at BK1001 BK1002 HB hHeld ⊢; refine pz_ 1 39 2 ?_; refine pz_ 2 40 6 ?_; refine pz_ 3 41 14 ?_; refine uz_ 4 42 30 ?_; refine uz_ 5 43 62 ?_; refine pz_ 6 44 126 ?_; refine tz_ 0 38 127 ?_; refine one_ (i := 7) (N := none) (bz 10 255) rfl rfl (one_of HT_.out (by kernel_rfl)) (by decide) (fun K hK => ?_); have hs32 : w31.cell? ⟨gb1001, 0, none⟩ = some (.string x1002000_1) := (blk_cell BK1001.out 0).trans rfl; have hfs32 := bf_ BK1001 0; have hns32_1 := NB1002_1001.out; have hms32_1 := NB1001_1002.out; have hs33 : w31.cell? ⟨gb1001, 1, none⟩ = some (.int .i64 x1002001_1) := (blk_cell BK1001.out 1).trans rfl; have hfs33 := bf_ BK1001 1; have hns33_1 := NB1002_1001.out; have hms33_1 := NB1001_1002.out; have hs34 : w31.cell? ⟨gb1001, 2, none⟩ = some (.string x1002002_1) := (blk_cell BK1001.out 2).trans rfl; have hfs34 := bf_ BK1001 2; have hns34_1 := NB1002_1001.out; have hms34_1 := NB1001_1002.out; refine skip_ (w1 := ?_) (by rfl) rfl ?_ ?_; rotate_left
      ·go_simp; rfl
      refine hK.out _ _ ⟨((cell_far (p := ⟨gb1001, _, none⟩) NB1002_1001.out _).trans (((cell_far (p := ⟨gb1001, _, none⟩) NB1002_1001.out _).trans (((cell_far (p := ⟨gb1001, _, none⟩) NB1002_1001.out _).trans (hHeld.1)))))), ((cell_far (p := ⟨gb1001, _, none⟩) NB1002_1001.out _).trans (((cell_far (p := ⟨gb1001, _, none⟩) NB1002_1001.out _).trans (((cell_far (p := ⟨gb1001, _, none⟩) NB1002_1001.out _).trans (hHeld.2.1)))))), ((cell_far (p := ⟨gb1001, _, none⟩) NB1002_1001.out _).trans (((cell_far (p := ⟨gb1001, _, none⟩) NB1002_1001.out _).trans (((cell_far (p := ⟨gb1001, _, none⟩) NB1002_1001.out _).trans (hHeld.2.2))))))⟩ (fun hHeld => ?_); clear hK K; refine pz_ 8 3 511 ?_; refine pz_ 9 4 1023 ?_; refine done_ (done_of HT_.out (by kernel_rfl)) ?_; (try go_wp2); refine bodyPost_ret (results_ctt rfl _ _ gb1001 35 #[.string t1003, .int .i64 ji8, .string t1008] (0, 0) _ rfl (by (with_reducible repeat (first | refine blk_drewN ?_ _ | refine blk_drew ?_ | refine blk_alloc ?_ _)); refine blk_put (cs := #[.string t1003, .int .i64 ji8, .string x1002002_1]) ?_ 2 _ rfl; (with_reducible repeat (first | refine blk_drewN ?_ _ | refine blk_drew ?_ | refine blk_alloc ?_ _)); refine blk_put (cs := #[.string t1003, .int .i64 x1002001_1, .string x1002002_1]) ?_ 1 _ rfl; (with_reducible repeat (first | refine blk_drewN ?_ _ | refine blk_drew ?_ | refine blk_alloc ?_ _)); refine blk_put (cs := #[.string x1002000_1, .int .i64 x1002001_1, .string x1002002_1]) ?_ 0 _ rfl; (with_reducible repeat (first | refine blk_drewN ?_ _ | refine blk_drew ?_ | refine blk_alloc ?_ _)); exact BK1001.out) Tryd.underlying35 rfl (by kernel_rfl)) rfl ?_; exact ⟨by first | rfl | (simp [errW_none, errW_some] <;> rfl) | (simp only [← hji8]; first | rfl | (simp [errW_none, errW_some] <;> rfl)) | (simp [*, errW_none, errW_some] <;> rfl) | (simp [*, Go.Proofs.YtlibcibpflfboaaDoor.Gt.nil_bne]; done), bg_⟩
    ·replace c12 := Bool.eq_false_iff.mpr c12; subst c12; replace H := if_ H; have H' := am_ H; clear H; have p1005 : 0 ≤ ((ji8) : Int) := od_; have q1005 : (ji8) < (lT0.length : Int) := od_; have ql1005 : (((ji8) : Int) < (5 : Int)) = True := eq_true (od_); obtain ⟨ad1005, e1005, hx1005_0⟩ := Kd.at_string HRT0.out (ji8) p1005 q1005; obtain rfl : (⟨0, 0, none⟩ : Addr) = ad1005 := (by injection e1005); (first | simp only [add_plain] at hx1005_0 | simp only [add_at] at hx1005_0 | simp only [Addr.add, Nat.zero_add] at hx1005_0 | skip); (try simp only [Nat.zero_add] at hx1005_0); have hw1005_0 := hx1005_0; replace hx1005_0 := kp_ HB hx1005_0; replace p1005 := eq_true p1005; replace q1005 := eq_true q1005; go_wp2_with (first | ((with_reducible refine gate_callee (f := 19) rfl ?_); refine goesL_ (some 25) rfl rfl Tryd.func19 (by kernel_rfl) rfl #[.string t1004, .string (rdOf ByteArray.empty lT0 (ji8))] rfl (by (try simp only [List.map_toArray, List.map_cons, List.map_nil]); first | done | (simp only [hji8]; rfl) | rfl | (simp only [List.length_drop, List.length_take]; rfl)) ?_; (with_reducible refine (strings_CutPrefix.calls t1004 (rdOf ByteArray.empty lT0 (ji8)) t1006 false _ A11.out).mono ?_); rintro e w' ⟨rfl, ⟨nd, rfl⟩⟩; refine ⟨_, rfl, ?_⟩)); go_roundg k1
     case measure => have := HK1.out; omega
     case rel => exact ⟨(wrap64 (x17_1 + 1)), (x1002000_1), (x1002001_1), (x1002002_1), (x1003001_1), (x1003002_1), rs_, H', ⟨by have := HK1.out; omega⟩, ⟨vk_ BK1001⟩, ⟨vk_ BK1002⟩, ⟨bg_⟩⟩
   ·rw [if_neg c7] at H; have c7b0 := decide_eq_false c7; clear c7; simp only [Option.some.injEq, Prod.mk.injEq] at H; obtain ⟨rfl, rfl, rfl, rfl, rfl⟩ := H; have hnb35 := NB1002_1001.out; have hnc35 := NB1001_1002.out; have hz36 := bk3_ BK1002; have hz37 := bk3_ BK1001; go_wp2; refine bodyPost_ret (results_ctt rfl _ _ gb1001 35 #[.string t1003, .int .i64 x1003001_1, .string x1003002_1] (0, 0) _ rfl (by (with_reducible repeat (first | refine blk_drewN ?_ _ | refine blk_drew ?_ | refine blk_alloc ?_ _)); refine blk_put (cs := #[.string t1003, .int .i64 x1003001_1, .string x1002002_1]) ?_ 2 _ rfl; (with_reducible repeat (first | refine blk_drewN ?_ _ | refine blk_drew ?_ | refine blk_alloc ?_ _)); refine blk_put (cs := #[.string t1003, .int .i64 x1002001_1, .string x1002002_1]) ?_ 1 _ rfl; (with_reducible repeat (first | refine blk_drewN ?_ _ | refine blk_drew ?_ | refine blk_alloc ?_ _)); refine blk_put (cs := #[.string x1002000_1, .int .i64 x1002001_1, .string x1002002_1]) ?_ 0 _ rfl; (with_reducible repeat (first | refine blk_drewN ?_ _ | refine blk_drew ?_ | refine blk_alloc ?_ _)); exact BK1001.out) Tryd.underlying35 rfl (by kernel_rfl)) rfl ?_; exact ⟨rf_, bg_⟩
/-! ### impl_Matcher_46: function 46 -/
def impl_Matcher_46.l0 (P : S35 → Option Bool) (l0 : List (S35)) : Nat → Int → Option Int
 | 0, _ => none
 | k + 1, x8 => if x8 < (l0.length : Int) then (if 0 ≤ x8 then ((P (⟨(rd_T35 l0 x8).f0, (rd_T35 l0 x8).f1, (rd_T35 l0 x8).f2⟩ : S35)).bind fun b => if b = true then some x8 else impl_Matcher_46.l0 P l0 k (wrap64 (x8 + 1))) else none) else some (-1)
def impl_Matcher_46.f (k : Nat) (P : S35 → Option Bool) (l0 : List (S35)) : Option Int := impl_Matcher_46.l0 P l0 k 0
theorem impl_Matcher_46.mono_l (P P' : S35 → Option Bool) (hP : ∀ x, LeO (P x) (P' x)) (l0 : List (S35)) : ∀ k x8, LeO (impl_Matcher_46.l0 P l0 k x8) (impl_Matcher_46.l0 P' l0 (k + 1) x8)
 | 0, _ => LeO.none _
 | k + 1, x8 => by
  have ih := impl_Matcher_46.mono_l P P' hP l0 k
  unfold impl_Matcher_46.l0
  exact LeO.ite (LeO.ite (LeO.bind (hP _) (fun _ => LeO.ite (LeO.refl _) (ih _))) (LeO.none _)) (LeO.refl _)
theorem impl_Matcher_46.mono (P P' : S35 → Option Bool) (hP : ∀ x, LeO (P x) (P' x)) (l0 : List (S35)) (k : Nat) : LeO (impl_Matcher_46.f k P l0) (impl_Matcher_46.f (k + 1) P' l0) := impl_Matcher_46.mono_l P P' hP l0 k _
set_option maxHeartbeats 4000000 in
set_option maxRecDepth 100000 in
theorem impl_Matcher_46.calls (k : Nat) (P : S35 → Option Bool) (g : Nat) (vf : Value) (lb : Array Value) (hv : (vf = .func (.func g) #[] lb)) (eg : ∀ args w, (callFunc g args).run Tryd.prog w = .ok (.enter g args) w) (A0 : Option Addr) (c0 : Nat) (l0 : List (S35)) (r : Int) (w : World) (hr0 : Kd.C k35 w A0 l0.length l0) (hc0 : l0.length ≤ c0)
  (hP : ∀ (W : World) (x : S35) (b : Bool), Below w.heap.size w W → P x = some b → Calls Tryd.prog g (#[(.agg #[.string (x.f0), .int .i64 (x.f1), .string (x.f2)])] ++ lb) W fun e w' => e = .returned (.bool b) ∧ Below W.heap.size W w') (h : impl_Matcher_46.f k P l0 = some r) :
  Calls Tryd.prog 46 #[.slice A0 l0.length c0, vf] w fun e w' => e = .returned (.int .i64 r) ∧ Below w.heap.size w w' := by
 subst hv
 have hu := Tryd.underlying35
 have HR0 := am_ hr0
 have HC0 := am_ hc0
 clear hr0 hc0
 have HB := am_ (Below.refl w.heap.size w)
 have hP' := am_ hP
 clear hP
 have H' := am_ (show impl_Matcher_46.l0 P l0 k 0 = some r from h)
 clear h
 go_enter Tryd.func46, Tryd.ntmps46
 go_wp2
 go_loopg [8] k (fun kq v8 w' => ∃ (x8 : Int), v8 = .int .i64 x8 ∧ Aside0 (impl_Matcher_46.l0 P l0 kq x8 = some r) ∧ Aside0 (Below w.heap.size w w'))
 case atStart => exact ⟨0, rs_, H', ⟨bl_⟩⟩
 case round =>
  clear H'
  obtain ⟨x8, rfl, HA, HB⟩ := hrel
  cases gk with
  | zero => exact absurd HA.out (by simp [impl_Matcher_46.l0])
  | succ k1 =>
   have H := HA.out
   clear HA
   simp only [impl_Matcher_46.l0] at H
   by_cases c4 : x8 < (l0.length : Int)
   ·rw [if_pos c4] at H
    have c4b0 : decide (x8 < (l0.length : Int)) = true := decide_eq_true c4
    by_cases c5 : 0 ≤ x8
    ·rw [if_pos c5] at H
     have c5b0 : decide (0 ≤ x8) = true := decide_eq_true c5
     obtain ⟨b, hb0, H⟩ := Option.bind_eq_some_iff.mp H
     have HP0 := am_ hb0
     clear hb0
     obtain ⟨ad, e_, hx_0, hx_1, hx_2⟩ := at_T35 (Kd.C_below HR0.out HB.out) x8 c5 c4
     cases e_
     skip
     have p_ := eq_true c5
     have q_ := eq_true c4
     clear c4 c5
     cases b with
     | true =>
      rw [if_pos rfl] at H
      obtain rfl := Option.some.inj H
      go_wp2_with (first | ((with_reducible refine Calls.mono (hP'.out _ (⟨(rd_T35 l0 x8).f0, (rd_T35 l0 x8).f1, (rd_T35 l0 x8).f2⟩ : S35) true HB.out HP0.out) ?_); rintro e w10 ⟨rfl, hb⟩; have n2_ := am_ (below_step HB.out hb); clear HB; have HB := n2_; clear n2_ hb))
      go_ret
      exact ⟨rf_, bl_⟩
     | false =>
      rw [if_neg (show ¬ (false = true) by decide)] at H
      have H' := am_ H
      clear H
      go_wp2_with (first | ((with_reducible refine Calls.mono (hP'.out _ (⟨(rd_T35 l0 x8).f0, (rd_T35 l0 x8).f1, (rd_T35 l0 x8).f2⟩ : S35) false HB.out HP0.out) ?_); rintro e w10 ⟨rfl, hb⟩; have n2_ := am_ (below_step HB.out hb); clear HB; have HB := n2_; clear n2_ hb))
      go_roundg k1
      case measure => omega
      case rel => exact ⟨(wrap64 (x8 + 1)), rs_, H', ⟨bl_⟩⟩
    ·rw [if_neg c5] at H
     exact absurd H (by simp)
   ·rw [if_neg c4] at H
    have c4b0 : decide (x8 < (l0.length : Int)) = false := decide_eq_false c4
    clear c4
    obtain rfl := Option.some.inj H
    go_wp2
    go_ret
    exact ⟨rf_, bl_⟩

/-! ### impl_Matcher_35: function 35 -/
def impl_Matcher_35.f (k : Nat) (P : S35 → Option Bool) (l0 : List (S35)) : Option Bool := (impl_Matcher_46.f k P l0).bind fun j => some (decide (0 ≤ j))
theorem impl_Matcher_35.mono (P P' : S35 → Option Bool) (hP : ∀ x, LeO (P x) (P' x)) (l0 : List (S35)) (k : Nat) : LeO (impl_Matcher_35.f k P l0) (impl_Matcher_35.f (k + 1) P' l0) := LeO.bind (impl_Matcher_46.mono P P' hP l0 k) (fun _ => LeO.refl _)
set_option maxHeartbeats 4000000 in
set_option maxRecDepth 100000 in
theorem impl_Matcher_35.calls (k : Nat) (P : S35 → Option Bool) (g : Nat) (vf : Value) (lb : Array Value) (hv : vf = .func (.func g) #[] lb) (eg : ∀ args w, (callFunc g args).run Tryd.prog w = .ok (.enter g args) w) (A0 : Option Addr) (c0 : Nat) (l0 : List (S35)) (r : Bool) (w : World) (hr0 : Kd.C k35 w A0 l0.length l0) (hc0 : l0.length ≤ c0)
  (hP : ∀ (W : World) (x : S35) (b : Bool), Below w.heap.size w W → P x = some b → Calls Tryd.prog g (#[(.agg #[.string (x.f0), .int .i64 (x.f1), .string (x.f2)])] ++ lb) W fun e w' => e = .returned (.bool b) ∧ Below W.heap.size W w') (h : impl_Matcher_35.f k P l0 = some r) :
  Calls Tryd.prog 35 #[.slice A0 l0.length c0, vf] w fun e w' => e = .returned (.bool r) ∧ Below w.heap.size w w' := by
 unfold impl_Matcher_35.f at h
 obtain ⟨j, hj, h⟩ := Option.bind_eq_some_iff.mp h
 obtain rfl := Option.some.inj h
 have hx := am_ (impl_Matcher_46.calls k P g vf lb hv eg A0 c0 l0 j w hr0 hc0 hP hj)
 clear hr0 hc0 hP h hj eg
 subst hv
 go_enter Tryd.func35, Tryd.ntmps35
 go_wp2_with (first | (go_at_call 46; refine hx.out.mono ?_; rintro e w1 ⟨rfl, hb⟩))
 go_ret
 exact ⟨rfl, hb⟩

/-! ### impl_GoodMatchers_1: function 36 -/
def impl_GoodMatchers_1.f (k : Nat) (a0_0 : ByteArray) (a0_1 : Int) (a0_2 : ByteArray) : Option (Bool) := (impl_goodMatcher.f k a0_0 a0_1 a0_2).bind fun t1002 => (some (!t1002))
theorem impl_GoodMatchers_1.mono : ∀ a0 a1 a2 k, LeO (impl_GoodMatchers_1.f k a0 a1 a2) (impl_GoodMatchers_1.f (k + 1) a0 a1 a2) := by
 intro a0 a1 a2 k
 unfold impl_GoodMatchers_1.f
 repeat' with_reducible first | apply impl_goodMatcher.mono | apply LeO.refl | apply LeO.none | apply LeO.ite | refine LeO.bind ?_ (fun _ => ?_)
set_option maxHeartbeats 8000000 in
set_option maxRecDepth 100000 in
theorem impl_GoodMatchers_1.calls (k : Nat) (a0_0 : ByteArray) (a0_1 : Int) (a0_2 : ByteArray) (r : Bool) (w : World) (h : impl_GoodMatchers_1.f k a0_0 a0_1 a0_2 = some r) :
  Calls Tryd.prog 36 #[.agg #[.string a0_0, .int .i64 a0_1, .string a0_2]] w fun e w' => e = .returned (.bool r) ∧ Below w.heap.size w w' := by
 have hu35 := Tryd.underlying35; have HB := am_ (Below.refl w.heap.size w); have H := h; clear h; unfold impl_GoodMatchers_1.f at H; replace H := bs_ H; obtain ⟨t1002, A2, H⟩ := H; obtain rfl := si_ H; go_enter Tryd.func36, Tryd.ntmps36; go_wp2_with (first | ((with_reducible refine gate_dst (N := 1) rfl ?_); refine bx_ 1 #[.string a0_0, .int .i64 a0_1, .string a0_2] 35 ?_; intro gb1001 hg w3 hbox hb; have BK1001 := am_ (hbox); have GW1001 := am_ (gs_ hg : w.heap.size ≤ gb1001); replace HB := am_ (below_step bl_ hb); have GE1001 := GW1001; clear hb hbox hg; have hz4 := bk3_ BK1001) | ((with_reducible refine gate_callee (f := 34) rfl ?_); refine gl_ 4 Tryd.func34 #[.agg #[.string a0_0, .int .i64 a0_1, .string a0_2]] ?_; (with_reducible refine (impl_goodMatcher.calls k a0_0 a0_1 a0_2 t1002 _ A2.out).mono ?_); rintro e w5 ⟨rfl, hb⟩; refine ⟨_, rfl, ?_⟩; replace BK1001 := vb_ BK1001 hb; replace HB := am_ (below_step bg_ hb); (try clear hb))); go_ret; exact ⟨rf_, bg_⟩

/-! ### any_35_36: function 35 -/
def any_35_36.f (k : Nat) (l0 : List (S35)) : Option Bool := impl_Matcher_35.f k (fun x => impl_GoodMatchers_1.f k x.f0 x.f1 x.f2) l0
theorem any_35_36.mono : ∀ a0 k, LeO (any_35_36.f k a0) (any_35_36.f (k + 1) a0) := fun a0 k => impl_Matcher_35.mono _ _ (fun x => impl_GoodMatchers_1.mono _ _ _ _) a0 k
theorem any_35_36.calls (k : Nat) (A0 : Option Addr) (c0 : Nat) (l0 : List (S35)) (r : Bool) (w : World) (hr0 : Kd.C k35 w A0 l0.length l0) (hc0 : l0.length ≤ c0) (h : any_35_36.f k l0 = some r) :
  Calls Tryd.prog 35 #[.slice A0 l0.length c0, .func (.func 36) #[] #[]] w fun e w' => e = .returned (.bool r) ∧ Below w.heap.size w w' :=
 impl_Matcher_35.calls k _ 36 (.func (.func 36) #[] #[]) #[] rfl (enters_ Tryd.func36 (by kernel_rfl) rfl) A0 c0 l0 r w hr0 hc0 (by
  intro W x b hW hP; exact impl_GoodMatchers_1.calls k x.f0 x.f1 x.f2 b W hP) h
/-! ### impl_GoodMatchers: function 22 -/
def impl_GoodMatchers.f (k : Nat) (l0 : List (S35)) : Option (Bool) := if (l0.length : Int) ≤ 10 then ((any_35_36.f k l0).bind fun t1001 => (some (!t1001))) else (some false)
theorem impl_GoodMatchers.mono : ∀ a0 k, LeO (impl_GoodMatchers.f k a0) (impl_GoodMatchers.f (k + 1) a0) := by
 intro a0 k
 unfold impl_GoodMatchers.f
 repeat' with_reducible first | apply any_35_36.mono | apply LeO.refl | apply LeO.none | apply LeO.ite | refine LeO.bind ?_ (fun _ => ?_)
set_option maxHeartbeats 8000000 in
set_option maxRecDepth 100000 in
theorem impl_GoodMatchers.calls (k : Nat) (A0 : Option Addr) (c0 : Nat) (l0 : List (S35)) (r : Bool) (w : World) (hr0 : Kd.C k35 w A0 l0.length l0) (hc0 : l0.length ≤ c0) (h : impl_GoodMatchers.f k l0 = some r) :
  Calls Tryd.prog 22 #[.slice A0 l0.length c0] w fun e w' => e = .returned (.bool r) ∧ Below w.heap.size w w' := by
 have HR0 := am_ hr0; have HC0 := am_ hc0; clear hr0 hc0; have HB := am_ (Below.refl w.heap.size w); have H := h; clear h; unfold impl_GoodMatchers.f at H
 by_cases c2 : (l0.length : Int) ≤ 10
 ·rw [if_pos c2] at H; have c2b0 := decide_eq_true c2; have c2b1 : decide (l0.length ≤ 10) = true := decide_eq_true (by omega); clear c2; replace H := bs_ H; obtain ⟨t1001, A3, H⟩ := H; obtain rfl := si_ H; go_enter Tryd.func22, Tryd.ntmps22; go_wp2_with (first | (go_at_call 35; (with_reducible refine (any_35_36.calls k _ _ l0 t1001 _ ?side1 ?side2 A3.out).mono ?_); (case side1 => repeat (first | exact HR0.out | (with_reducible refine Kd.C_alloc ?_ _) | (with_reducible refine Kd.C_drewN ?_ _) | (with_reducible refine Kd.C_drew ?_))); (case side2 => exact HC0.out); rintro e w4 ⟨rfl, hb⟩; replace HB := am_ (below_step bl_ hb); (try clear hb))); go_ret; exact ⟨rf_, bl_⟩
 ·rw [if_neg c2] at H; have c2b0 := decide_eq_false c2; have c2b1 : decide (l0.length ≤ 10) = false := decide_eq_false (by omega); clear c2; obtain rfl := si_ H; go_enter Tryd.func22, Tryd.ntmps22; go_wp2; go_ret; exact ⟨rf_, bl_⟩

end Go.Proofs.YtlibcibpflfboaaDoor.Pr
