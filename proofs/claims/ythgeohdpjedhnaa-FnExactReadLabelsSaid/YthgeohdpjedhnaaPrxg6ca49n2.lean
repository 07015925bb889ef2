/- Functions of the given program as plain Lean functions, and that the machine's calls come to them; written by a program of this session; no condition but those that each theorem states. -/
import Derived.Test.YthgeohdpjedhnaaPrx0
import Derived.Test.YthgeohdpjedhnaaPrxg5570bn1
import Derived.Test.YthgeohdpjedhnaaPrxgcd579n1
import Derived.Test.YthgeohdpjedhnaaPrxg7e704n1
import Derived.Test.YthgeohdpjedhnaaPrxg6ca49n1
namespace Go.Proofs.Ythgeohdpjedhnaa.Pr
open Go.RowKit Go.Proofs.YthgeohdpjedhnaaW.PrintWords Go.Proofs.YthgeohdpjedhnaaW.PrintLast Go.Proofs.YthgeohdpjedhnaaW.PrintMore
attribute [local go_sem] max2_int min2_int max_two min_two max_three min_three max_four min_four   -- for this text's walks alone
set_option linter.unusedVariables false
set_option linter.unusedSimpArgs false

/-! ### impl_takeLabels: function 100 -/
mutual
def impl_takeLabels.l0 : Nat → ByteArray → List (S86) → Option ((List (S86)) × ByteArray × Bool)
 | 0, _, _ => none
 | k + 1, x5, x7 => (strings_HasPrefix.f x5 (⟨#[125]⟩ : ByteArray)).bind fun t1003 => (if t1003 = true then (if 1 ≤ (x5.size : Int) then ((impl_GoodLabels.f k x7).bind fun t1004 => (some (x7, x5.extract 1 x5.size, t1004))) else (none)) else (if (x7.length : Int) > 0 then ((strings_CutPrefix.f x5 (⟨#[44]⟩ : ByteArray)).bind fun bt1005 => (if bt1005.2 = true then (impl_takeLabels.j1 k bt1005.1 x7) else (some (([] : List (S86)), (⟨#[]⟩ : ByteArray), false)))) else (impl_takeLabels.j1 k x5 x7)))
def impl_takeLabels.j1 : Nat → ByteArray → List (S86) → Option ((List (S86)) × ByteArray × Bool)
 | 0, _, _ => none
 | k + 1, x5, x7 => (impl_wordOf.f k x5).bind fun bt1008 => ((strings_CutPrefix.f bt1008.2 (⟨#[61]⟩ : ByteArray)).bind fun bt1010 => (if bt1010.2 = true then ((impl_unquote.f k bt1010.1).bind fun bt1012 => (if bt1012.2.2 = true then (if x7.length < 4398046511104 then (impl_takeLabels.l0 k bt1012.2.1 (x7 ++ [(⟨bt1008.1, bt1012.1⟩ : S86)])) else (none)) else (some (([] : List (S86)), (⟨#[]⟩ : ByteArray), false)))) else (some (([] : List (S86)), (⟨#[]⟩ : ByteArray), false))))
end
def impl_takeLabels.f (k : Nat) (a0 : ByteArray) : Option ((List (S86)) × ByteArray × Bool) := (strings_CutPrefix.f a0 (⟨#[123]⟩ : ByteArray)).bind fun bt1001 => (if bt1001.2 = true then (impl_takeLabels.l0 k bt1001.1 ([] : List (S86))) else (some (([] : List (S86)), (⟨#[]⟩ : ByteArray), false)))
theorem impl_takeLabels.mono_l : ∀ k, (∀ y0 y1, LeO (impl_takeLabels.l0 k y0 y1) (impl_takeLabels.l0 (k + 1) y0 y1)) ∧ (∀ y0 y1, LeO (impl_takeLabels.j1 k y0 y1) (impl_takeLabels.j1 (k + 1) y0 y1))
 | 0 => ⟨fun _ _ r h => by simp [impl_takeLabels.l0] at h, fun _ _ r h => by simp [impl_takeLabels.j1] at h⟩
 | k + 1 => by
  obtain ⟨ih0, ih1⟩ := impl_takeLabels.mono_l k
  refine ⟨?_, ?_⟩
  ·intro y0 y1
   unfold impl_takeLabels.l0
   repeat' first
   | with_reducible first | exact ih0 _ _ | exact ih1 _ _ | exact impl_GoodLabels.mono _ _ | exact impl_unquote.mono _ _ | exact impl_wordOf.mono _ _ | exact LeO.refl _ | exact LeO.none _ | refine LeO.ite ?_ ?_ | refine LeO.bind ?_ (fun _ => ?_)
   | exact ih0 _ _
   | exact ih1 _ _
   | exact impl_GoodLabels.mono _ _
   | exact impl_unquote.mono _ _
   | exact impl_wordOf.mono _ _
   | exact LeO.none _
   | refine LeO.ite ?_ ?_
   | refine LeO.bind ?_ (fun _ => ?_)
  ·intro y0 y1
   unfold impl_takeLabels.j1
   repeat' first
   | with_reducible first | exact ih0 _ _ | exact ih1 _ _ | exact impl_GoodLabels.mono _ _ | exact impl_unquote.mono _ _ | exact impl_wordOf.mono _ _ | exact LeO.refl _ | exact LeO.none _ | refine LeO.ite ?_ ?_ | refine LeO.bind ?_ (fun _ => ?_)
   | exact ih0 _ _
   | exact ih1 _ _
   | exact impl_GoodLabels.mono _ _
   | exact impl_unquote.mono _ _
   | exact impl_wordOf.mono _ _
   | exact LeO.none _
   | refine LeO.ite ?_ ?_
   | refine LeO.bind ?_ (fun _ => ?_)
theorem impl_takeLabels.mono : ∀ a0 k, LeO (impl_takeLabels.f k a0) (impl_takeLabels.f (k + 1) a0) := by
 intro a0 k
 obtain ⟨ih0, ih1⟩ := impl_takeLabels.mono_l k
 unfold impl_takeLabels.f
 repeat' first
   | with_reducible first | exact ih0 _ _ | exact ih1 _ _ | exact impl_GoodLabels.mono _ _ | exact impl_unquote.mono _ _ | exact impl_wordOf.mono _ _ | exact LeO.refl _ | exact LeO.none _ | refine LeO.ite ?_ ?_ | refine LeO.bind ?_ (fun _ => ?_)
   | exact ih0 _ _
   | exact ih1 _ _
   | exact impl_GoodLabels.mono _ _
   | exact impl_unquote.mono _ _
   | exact impl_wordOf.mono _ _
   | exact LeO.none _
   | refine LeO.ite ?_ ?_
   | refine LeO.bind ?_ (fun _ => ?_)
def impl_takeLabels.T19 : Bool × List (List Nat × List Nat) := (true, [([], []), ([], []), ([1], [1]), ([], []), ([3], [3]), ([0, 4, 0], [0]), ([2, 5, 0, 1, 2, 5], [2]), ([4, 6, 0, 1, 2, 3, 4, 5, 6], [4])])
def impl_takeLabels.B19 : List Nat := [0, 0, 2, 0, 8, 25, 63, 127]
theorem impl_takeLabels.tab19 : rtab .any (opsOf Try.f100 19) = impl_takeLabels.T19 := by kernel_rfl
theorem impl_takeLabels.bits19 : waitsOk impl_takeLabels.T19.2 impl_takeLabels.B19 = true := by kernel_rfl
set_option maxHeartbeats 8000000 in
set_option maxRecDepth 100000 in
theorem impl_takeLabels.calls (k : Nat) (a0 : ByteArray) (r1 : List (S86)) (r2 : ByteArray) (r3 : Bool) (w : World) (h : impl_takeLabels.f k a0 = some (r1, r2, r3)) :
  Calls Try.prog 100 #[.string a0] w fun e w' => ∃ v0_ : Value, e = .returned (.tuple #[v0_, .string r2, .bool r3]) ∧ Kd.R k86 86 w' w.heap.size (fun _ => True) v0_ r1 ∧ Below w.heap.size w w' := by
 have hu86 := Try.underlying86
 have HB := am_ (Below.refl w.heap.size w)
 have H : ((strings_CutPrefix.f a0 (⟨#[123]⟩ : ByteArray)).bind fun bt1001 => (if bt1001.2 = true then (impl_takeLabels.l0 k bt1001.1 ([] : List (S86))) else (some (([] : List (S86)), (⟨#[]⟩ : ByteArray), false)))) = some (r1, r2, r3) := h
 clear h
 replace H := Option.bind_eq_some_iff.mp H
 obtain ⟨⟨t1001, t1002⟩, A20, H⟩ := H
 replace H : (if t1002 = true then (impl_takeLabels.l0 k t1001 ([] : List (S86))) else (some (([] : List (S86)), (⟨#[]⟩ : ByteArray), false))) = some (r1, r2, r3) := H
 have A2 := am_ A20
 clear A20
 by_cases c3 : t1002 = true
 ·subst c3
  have H1 : (impl_takeLabels.l0 k t1001 ([] : List (S86))) = some (r1, r2, r3) := by rw [if_pos rfl] at H; exact H
  clear H
  have H := H1
  clear H1
  have H' := am_ H
  clear H
  go_enter Try.func100, Try.ntmps100
  go_wp2_with (first | ((with_reducible refine gate_callee (f := 141) rfl ?_); refine goesL_ (some 11) rfl rfl Try.func141 (by kernel_rfl) rfl #[.string a0, .string (⟨#[123]⟩ : ByteArray)] rfl ag_ ?_; (with_reducible refine (strings_CutPrefix.calls a0 (⟨#[123]⟩ : ByteArray) t1001 true _ A2.out).mono ?_); rintro e w' ⟨rfl, ⟨nd, rfl⟩⟩; refine ⟨_, rfl, ?_⟩))
  go_loopg [5, 7] k (fun kq v5 v7 w' => ∃ (x5_1 : ByteArray) (x7_1 : List (S86)), v5 = .string x5_1 ∧ Aside0 (impl_takeLabels.l0 kq x5_1 x7_1 = some (r1, r2, r3)) ∧ Aside0 (kq ≤ k) ∧ Aside0 (Kd.R k86 86 w' w.heap.size (fun _ => True) v7 x7_1) ∧ Aside0 (Below w.heap.size w w'))
  case atStart => exact ⟨(t1001), (([] : List (S86))), rs_, H', ⟨Nat.le_refl _⟩, ⟨ni_⟩, ⟨bl_⟩⟩
  case round =>
   clear H'
   try clear c1
   try clear p2
   try clear c3
   obtain ⟨x5_1, x7_1, rfl, HA, HK1, HO_7, HB⟩ := hrel
   cases gk with
   | zero => exact absurd HA.out (by simp [impl_takeLabels.l0])
   | succ k1 =>
    have H := HA.out
    clear HA
    simp only [impl_takeLabels.l0] at H
    replace H := Option.bind_eq_some_iff.mp H
    obtain ⟨t1003, A40, H⟩ := H
    replace H : (if t1003 = true then (if 1 ≤ (x5_1.size : Int) then ((impl_GoodLabels.f k1 x7_1).bind fun t1004 => (some (x7_1, x5_1.extract 1 x5_1.size, t1004))) else (none)) else (if (x7_1.length : Int) > 0 then ((strings_CutPrefix.f x5_1 (⟨#[44]⟩ : ByteArray)).bind fun bt1005 => (if bt1005.2 = true then (impl_takeLabels.j1 k1 bt1005.1 x7_1) else (some (([] : List (S86)), (⟨#[]⟩ : ByteArray), false)))) else (impl_takeLabels.j1 k1 x5_1 x7_1))) = some (r1, r2, r3) := H
    have A4 := am_ A40
    clear A40
    by_cases c5 : t1003 = true
    ·subst c5
     have H1 : (if 1 ≤ (x5_1.size : Int) then ((impl_GoodLabels.f k1 x7_1).bind fun t1004 => (some (x7_1, x5_1.extract 1 x5_1.size, t1004))) else (none)) = some (r1, r2, r3) := by rw [if_pos rfl] at H; exact H
     clear H
     have H := H1
     clear H1
     by_cases c6 : 1 ≤ (x5_1.size : Int)
     ·rw [if_pos c6] at H
      have c6b0 := eq_true c6
      have c6b1 : decide (1 ≤ (x5_1.size : Int)) = true := decide_eq_true c6
      clear c6
      replace H := Option.bind_eq_some_iff.mp H
      obtain ⟨t1004, A70, H⟩ := H
      replace H : (some (x7_1, x5_1.extract 1 x5_1.size, t1004)) = some (r1, r2, r3) := H
      have A7 := am_ A70
      clear A70
      simp only [Option.some.injEq, Prod.mk.injEq] at H
      obtain ⟨rfl, rfl, rfl⟩ := H
      try go_wp2_with (first | ((with_reducible refine gate_callee (f := 142) rfl ?_); refine goesL_ (some 17) rfl rfl Try.func142 (by kernel_rfl) rfl #[.string x5_1, .string (⟨#[125]⟩ : ByteArray)] rfl ag_ ?_; (with_reducible refine (strings_HasPrefix.calls x5_1 (⟨#[125]⟩ : ByteArray) true _ A4.out).mono ?_); rintro e w' ⟨rfl, ⟨nd, rfl⟩⟩; refine ⟨_, rfl, ?_⟩))
      (try (rw [drewN_self wr]; generalize hq_ : World.drewN wr _ = wr; have n0_ : Aside0 (Kd.R k86 86 wr w.heap.size (fun _ => True) u7 x7_1) := ⟨by rw [← hq_]; exact (ro_ HO_7)⟩; have n1_ : Aside0 (Below w.heap.size w wr) := ⟨by rw [← hq_]; exact bl_⟩; clear HO_7 HB hq_; have HO_7 := n0_; have HB := n1_; clear n0_ n1_))
      have n0_ := am_ (Kd.R_drew HO_7.out)
      have n1_ := am_ (below_drew1 HB.out)
      clear HO_7
      clear HB
      have HO_7 := n0_
      have HB := n1_
      clear n0_ n1_
      obtain ⟨Ao9, co9, eo9⟩ := Kd.R_slice HO_7.out
      (first | subst eo9 | (injection eo9 with f1_ f2_ f3_; have f4_ := f1_.symm; have f5_ := f3_.symm; clear f1_ f2_ f3_; subst f4_; subst f5_))
      refine start_ (n := 8) (S := fun w' => True) (ds := []) (bz 8 0) (by kernel_rfl) rfl rfl trivial (fun hHeld => ?_); refine with_tabW impl_takeLabels.tab19 impl_takeLabels.bits19 (fun HT_ HW_ => ?_)
      generalize wr.drew = w8 at HO_7 HB hHeld ⊢
      refine pz_ 0 55 1 ?_
      refine pz_ 1 56 3 ?_
      refine pz_ 2 57 7 ?_
      refine pz_ 3 58 15 ?_
      refine one_ (i := 4) (N := some 59) (bz 8 31) rfl rfl (one_of HT_.out (by kernel_rfl)) (by decide) (fun K hK => ?_)
      refine goes_ Try.func69 (by kernel_rfl) rfl #[.slice Ao9 x7_1.length co9] (by rfl) rfl rfl ag_ ?_
      with_reducible refine (impl_GoodLabels.calls k1 _ _ x7_1 t1004 _ ?side1 ?side2 A7.out).mono ?_
      (case side1 => exact cc_ (Kd.R_reads' HO_7.out).2.2)
      (case side2 => exact (Kd.R_reads' HO_7.out).2.1)
      rintro e w10 ⟨rfl, hb⟩
      refine ⟨_, rfl, ?_⟩
      have n0_ := am_ (Kd.R_below (ro_ HO_7) hb)
      have n1_ := am_ (below_step bl_ hb)
      clear HO_7
      clear HB
      have HO_7 := n0_
      have HB := n1_
      clear n0_ n1_
      (try clear hb)
      (try clear hb2)
      (try clear hk)
      (try clear hi)
      refine hK.out _ _ trivial (fun hHeld => ?_)
      clear hK K
      refine norm_ (a' := ?_) ?_ ?_
      rotate_left
      ·show Act.put _ (some 59) _ = _
       simp only [Act.put, List.setIfInBounds_toArray, List.set_cons_zero, List.set_cons_succ, i64_w, i32_w]
       rfl
      refine pz_ 5 2 63 ?_
      refine pz_ 6 3 127 ?_
      refine pz_ 7 4 255 ?_
      refine done_ (done_of HT_.out (by kernel_rfl)) ?_
      try go_wp2
      go_ret3
      exact ⟨_, rf_, by (with_reducible repeat (first | apply Kd.R_alloc | apply Kd.R_drewN | apply Kd.R_drew)); exact HO_7.out, bl_⟩
     ·rw [if_neg c6] at H
      exact absurd H (by simp)
    ·replace c5 := Bool.eq_false_iff.mpr c5
     subst c5
     have H1 : (if (x7_1.length : Int) > 0 then ((strings_CutPrefix.f x5_1 (⟨#[44]⟩ : ByteArray)).bind fun bt1005 => (if bt1005.2 = true then (impl_takeLabels.j1 k1 bt1005.1 x7_1) else (some (([] : List (S86)), (⟨#[]⟩ : ByteArray), false)))) else (impl_takeLabels.j1 k1 x5_1 x7_1)) = some (r1, r2, r3) := by rw [if_neg (show ¬ (false = true) by decide)] at H; exact H
     clear H
     have H := H1
     clear H1
     have HC11 := am_ H
     clear H
     go_upto_if 21 with (first | ((with_reducible refine gate_callee (f := 142) rfl ?_); refine goesL_ (some 17) rfl rfl Try.func142 (by kernel_rfl) rfl #[.string x5_1, .string (⟨#[125]⟩ : ByteArray)] rfl ag_ ?_; (with_reducible refine (strings_HasPrefix.calls x5_1 (⟨#[125]⟩ : ByteArray) false _ A4.out).mono ?_); rintro e w' ⟨rfl, ⟨nd, rfl⟩⟩; refine ⟨_, rfl, ?_⟩; obtain ⟨Ao12, co12, eo12⟩ := Kd.R_slice HO_7.out; subst eo12))
     (try simp only [Act.put, List.setIfInBounds_toArray, List.set_cons_zero, List.set_cons_succ])
     go_cut [5] (fun v5 wc => ∃ (kq : Nat) (x5_10 : ByteArray), v5 = .string x5_10 ∧ Aside0 (impl_takeLabels.j1 kq x5_10 x7_1 = some (r1, r2, r3)) ∧ Aside0 (kq ≤ k1) ∧ Aside0 (Kd.R k86 86 wc w.heap.size (fun _ => True) (.slice Ao12 x7_1.length co12) x7_1) ∧ Aside0 (Below w.heap.size w wc))
     case first =>
      have H := HC11.out
      clear HC11
      by_cases c13 : (x7_1.length : Int) > 0
      ·rw [if_pos c13] at H
       have c13b0 : decide (0 < (x7_1.length : Int)) = true := decide_eq_true c13
       have c13b1 : decide (0 < x7_1.length) = true := decide_eq_true (by omega)
       have c13b2 : 0 < x7_1.length := by omega
       clear c13
       (first | rw [c13b0] | (simp only [i64_w, i32_w]; rw [c13b0]) | skip)
       replace H := Option.bind_eq_some_iff.mp H
       obtain ⟨⟨t1005, t1006⟩, A140, H⟩ := H
       replace H : (if t1006 = true then (impl_takeLabels.j1 k1 t1005 x7_1) else (some (([] : List (S86)), (⟨#[]⟩ : ByteArray), false))) = some (r1, r2, r3) := H
       have A14 := am_ A140
       clear A140
       by_cases c15 : t1006 = true
       ·subst c15
        have H1 : (impl_takeLabels.j1 k1 t1005 x7_1) = some (r1, r2, r3) := by rw [if_pos rfl] at H; exact H
        clear H
        have H := H1
        clear H1
        have H' := am_ H
        clear H
        go_wp2_with (first | ((with_reducible refine gate_callee (f := 141) rfl ?_); refine goesL_ (some 24) rfl rfl Try.func141 (by kernel_rfl) rfl #[.string x5_1, .string (⟨#[44]⟩ : ByteArray)] rfl ag_ ?_; (with_reducible refine (strings_CutPrefix.calls x5_1 (⟨#[44]⟩ : ByteArray) t1005 true _ A14.out).mono ?_); rintro e w' ⟨rfl, ⟨nd, rfl⟩⟩; refine ⟨_, rfl, ?_⟩))
        go_meet
        case rel => exact ⟨_, (t1005), rs_, H', ⟨by have := HK1.out; first | omega | exact Nat.le_refl _⟩, ⟨ro_ HO_7⟩, ⟨bl_⟩⟩
       ·replace c15 := Bool.eq_false_iff.mpr c15
        subst c15
        have H1 : (some (([] : List (S86)), (⟨#[]⟩ : ByteArray), false)) = some (r1, r2, r3) := by rw [if_neg (show ¬ (false = true) by decide)] at H; exact H
        clear H
        have H := H1
        clear H1
        simp only [Option.some.injEq, Prod.mk.injEq] at H
        obtain ⟨rfl, rfl, rfl⟩ := H
        go_wp2_with (first | ((with_reducible refine gate_callee (f := 141) rfl ?_); refine goesL_ (some 24) rfl rfl Try.func141 (by kernel_rfl) rfl #[.string x5_1, .string (⟨#[44]⟩ : ByteArray)] rfl ag_ ?_; (with_reducible refine (strings_CutPrefix.calls x5_1 (⟨#[44]⟩ : ByteArray) t1005 false _ A14.out).mono ?_); rintro e w' ⟨rfl, ⟨nd, rfl⟩⟩; refine ⟨_, rfl, ?_⟩))
        go_ret3
        exact ⟨_, rf_, ni_, bl_⟩
      ·rw [if_neg c13] at H
       have c13b0 : decide (0 < (x7_1.length : Int)) = false := decide_eq_false c13
       have c13b1 : decide (0 < x7_1.length) = false := decide_eq_false (by omega)
       have c13b2 : ¬ 0 < x7_1.length := by omega
       clear c13
       (first | rw [c13b0] | (simp only [i64_w, i32_w]; rw [c13b0]) | skip)
       have H' := am_ H
       clear H
       go_wp2
       go_meet
       case rel => exact ⟨_, (x5_1), rs_, H', ⟨by have := HK1.out; first | omega | exact Nat.le_refl _⟩, ⟨ro_ HO_7⟩, ⟨bl_⟩⟩
     case rest =>
      clear HC11
      try clear c1
      try clear p2
      try clear c3
      try clear c5
      try clear c6
      try clear c6b0
      try clear c6b1
      try clear c10
      try clear c13
      try clear c13b0
      try clear c13b1
      try clear c14
      try clear c15
      try clear p2
      obtain ⟨kq, x5_10, rfl, HA, HJ10, HO_7, HB⟩ := hcut
      cases kq with
      | zero => exact absurd HA.out (by simp [impl_takeLabels.j1])
      | succ kj10 =>
       have H := HA.out
       clear HA
       simp only [impl_takeLabels.j1] at H
       replace H := Option.bind_eq_some_iff.mp H
       obtain ⟨⟨t1008, t1009⟩, A160, H⟩ := H
       replace H : ((strings_CutPrefix.f t1009 (⟨#[61]⟩ : ByteArray)).bind fun bt1010 => (if bt1010.2 = true then ((impl_unquote.f kj10 bt1010.1).bind fun bt1012 => (if bt1012.2.2 = true then (if x7_1.length < 4398046511104 then (impl_takeLabels.l0 kj10 bt1012.2.1 (x7_1 ++ [(⟨t1008, bt1012.1⟩ : S86)])) else (none)) else (some (([] : List (S86)), (⟨#[]⟩ : ByteArray), false)))) else (some (([] : List (S86)), (⟨#[]⟩ : ByteArray), false)))) = some (r1, r2, r3) := H
       have A16 := am_ A160
       clear A160
       replace H := Option.bind_eq_some_iff.mp H
       obtain ⟨⟨t1010, t1011⟩, A170, H⟩ := H
       replace H : (if t1011 = true then ((impl_unquote.f kj10 t1010).bind fun bt1012 => (if bt1012.2.2 = true then (if x7_1.length < 4398046511104 then (impl_takeLabels.l0 kj10 bt1012.2.1 (x7_1 ++ [(⟨t1008, bt1012.1⟩ : S86)])) else (none)) else (some (([] : List (S86)), (⟨#[]⟩ : ByteArray), false)))) else (some (([] : List (S86)), (⟨#[]⟩ : ByteArray), false))) = some (r1, r2, r3) := H
       have A17 := am_ A170
       clear A170
       by_cases c18 : t1011 = true
       ·subst c18
        have H1 : ((impl_unquote.f kj10 t1010).bind fun bt1012 => (if bt1012.2.2 = true then (if x7_1.length < 4398046511104 then (impl_takeLabels.l0 kj10 bt1012.2.1 (x7_1 ++ [(⟨t1008, bt1012.1⟩ : S86)])) else (none)) else (some (([] : List (S86)), (⟨#[]⟩ : ByteArray), false)))) = some (r1, r2, r3) := by rw [if_pos rfl] at H; exact H
        clear H
        have H := H1
        clear H1
        replace H := Option.bind_eq_some_iff.mp H
        obtain ⟨⟨t1012, t1013, t1014⟩, A190, H⟩ := H
        replace H : (if t1014 = true then (if x7_1.length < 4398046511104 then (impl_takeLabels.l0 kj10 t1013 (x7_1 ++ [(⟨t1008, t1012⟩ : S86)])) else (none)) else (some (([] : List (S86)), (⟨#[]⟩ : ByteArray), false))) = some (r1, r2, r3) := H
        have A19 := am_ A190
        clear A190
        by_cases c20 : t1014 = true
        ·subst c20
         have H1 : (if x7_1.length < 4398046511104 then (impl_takeLabels.l0 kj10 t1013 (x7_1 ++ [(⟨t1008, t1012⟩ : S86)])) else (none)) = some (r1, r2, r3) := by rw [if_pos rfl] at H; exact H
         clear H
         have H := H1
         clear H1
         by_cases c21 : x7_1.length < 4398046511104
         ·rw [if_pos c21] at H
          have LMc21 := am_ c21
          clear c21
          obtain ⟨y1015, hy1015⟩ : ∃ y_ : List (S86), y_ = (x7_1 ++ [(⟨t1008, t1012⟩ : S86)]) := ⟨_, rfl⟩
          replace H : (impl_takeLabels.l0 kj10 t1013 y1015) = some (r1, r2, r3) := by first | (rw [hy1015]; with_reducible exact H) | (have H2_ := (Option.bind_some _ _).symm.trans H; rw [hy1015]; with_reducible exact H2_) | (have H2_ := (Option.bind_some _ _).symm.trans H; with_reducible exact H2_) | with_reducible exact H | (rw [hy1015]; exact H) | exact H
          have Ny1015 := am_ hy1015
          clear hy1015
          have H' := am_ H
          clear H
          go_wp2_with (first | ((with_reducible refine gate_dst (N := 8) rfl ?_); refine box_event ?hg (N := 8) ?hd (cs := #[.string (⟨#[]⟩ : ByteArray), .string (⟨#[]⟩ : ByteArray)]) (t := 86) ?hr ?_; (case hd => rfl); (case hg => rfl); (case hr => first | (go_simp; done) | (go_simp; rfl)); intro gb1007 hg w22 hbox hb; have n0_ := am_ (Kd.R_below (Kd.R_elderB (ro_ HO_7) gb1007 (Nat.le_of_eq hg.symm)) hb); have n1_ := am_ (below_step bl_ hb); have n2_ := am_ (hbox); have n3_ := am_ (gs_ hg : w.heap.size ≤ gb1007); have n4_ := n3_; clear HO_7; clear HB; have HO_7 := n0_; have HB := n1_; have BK1007 := n2_; have GW1007 := n3_; have GE1007 := n4_; clear n0_ n1_ n2_ n3_ n4_; clear hb hbox hg) | ((with_reducible refine gate_callee (f := 143) rfl ?_); refine goesL_ (some 31) rfl rfl Try.func143 (by kernel_rfl) rfl #[.string x5_10] rfl ag_ ?_; (with_reducible refine (impl_wordOf.calls kj10 x5_10 t1008 t1009 _ A16.out).mono ?_); rintro e w' ⟨rfl, ⟨nd, rfl⟩⟩; refine ⟨_, rfl, ?_⟩; (try (rw [drewN_self w22]; generalize hq_ : World.drewN w22 _ = w22; have n0_ : Aside0 (Kd.R k86 86 w22 w.heap.size (fun k_ => k_ ≠ gb1007) (.slice Ao12 x7_1.length co12) x7_1) := ⟨by rw [← hq_]; exact (by (with_reducible repeat (first | apply Kd.R_alloc | apply Kd.R_drewN | apply Kd.R_drew)); exact Kd.R_mono HO_7.out (fun _ hk => by first | exact hk.2 | exact hk))⟩; have n1_ : Aside0 (w22.heap[gb1007]? = some (.cells #[.string (⟨#[]⟩ : ByteArray), .string (⟨#[]⟩ : ByteArray)] 86 (0, 0))) := ⟨by rw [← hq_]; exact (vk_ BK1007)⟩; have n2_ : Aside0 (Below w.heap.size w w22) := ⟨by rw [← hq_]; exact bg_⟩; clear HO_7 BK1007 HB hq_; have HO_7 := n0_; have BK1007 := n1_; have HB := n2_; clear n0_ n1_ n2_)); have hcz23_0 := bc2_0 BK1007; have hcz23_1 := bc2_1 BK1007; have hfz23_0 := bf_ BK1007 0; have hfz23_1 := bf_ BK1007 1) | ((with_reducible refine gate_callee (f := 141) rfl ?_); refine goesL_ (some 37) rfl rfl Try.func141 (by kernel_rfl) rfl #[.string t1009, .string (⟨#[61]⟩ : ByteArray)] rfl ag_ ?_; (with_reducible refine (strings_CutPrefix.calls t1009 (⟨#[61]⟩ : ByteArray) t1010 true _ A17.out).mono ?_); rintro e w' ⟨rfl, ⟨nd, rfl⟩⟩; refine ⟨_, rfl, ?_⟩) | ((with_reducible refine gate_callee (f := 144) rfl ?_); refine goesL_ (some 44) rfl rfl Try.func144 (by kernel_rfl) rfl #[.string t1010] rfl ag_ ?_; (with_reducible refine (impl_unquote.calls kj10 t1010 t1012 t1013 true _ A19.out).mono ?_); rintro e w24 ⟨rfl, hb⟩; refine ⟨_, rfl, ?_⟩; have n0_ := am_ (Kd.R_below (by (with_reducible repeat (first | apply Kd.R_alloc | apply Kd.R_drewN | apply Kd.R_drew)); exact (Kd.R_mono (Kd.R_far (p := ⟨gb1007, 0, none⟩) (Kd.R_mono HO_7.out (fun k_ hk => (⟨hk, by first | exact hk.2 | exact hk⟩ : _ ∧ k_ ≠ gb1007))) (fun _ hk => by first | exact hk.2 | exact hk) (.string t1008)) (fun _ h_ => h_.1))) hb); have n1_ := am_ (blk_below (g := gb1007) (o := .cells #[.string t1008, .string (⟨#[]⟩ : ByteArray)] 86 (0, 0)) (by (with_reducible repeat (first | refine blk_drewN ?_ _ | refine blk_drew ?_ | refine blk_alloc ?_ _)); refine blk_put (cs := #[.string (⟨#[]⟩ : ByteArray), .string (⟨#[]⟩ : ByteArray)]) ?_ 0 _ rfl; (with_reducible repeat (first | refine blk_drewN ?_ _ | refine blk_drew ?_ | refine blk_alloc ?_ _)); exact BK1007.out) hb); have n2_ := am_ (below_step bg_ hb); clear HO_7; clear BK1007; clear HB; have HO_7 := n0_; have BK1007 := n1_; have HB := n2_; clear n0_ n1_ n2_; (try clear hb); (try clear hb2); (try clear hk); (try clear hi); have hcz25_0 := bc2_0 BK1007; have hcz25_1 := bc2_1 BK1007; have hfz25_0 := bf_ BK1007 0; have hfz25_1 := bf_ BK1007 1) | ((with_reducible refine gate_builtin (b := .append) (xs := #[.tmp 51, .tmp 53]) rfl ?_); at_builtin; refine Kd.R_append k86 (w0 := w) w.heap.size rfl (.tmp 51) (.tmp 53) 30 86 (.agg #[(.string ⟨#[]⟩), (.string ⟨#[]⟩)]) 32 rfl Try.underlying30 info86 rfl (by decide) (by omega) (.slice Ao12 x7_1.length co12) x7_1 (⟨t1008, t1012⟩ : S86) [.string t1008, .string t1012] (fun k_ => k_ ≠ gb1007) (fun _ => False) rfl (by first | (go_simp; done) | (go_simp; rfl)) ?aP (fun _ hk => hk.elim) ?aF ?aO ?aB ?aS ?aL ?_; (case aP => exact k86_mkM _ _ _ (⟨t1008, t1012⟩ : S86)); (case aB => exact bg_); (case aF => exact (fun k_ hk => Kd.freshB (g := gb1007) (o := .cells #[.string t1008, .string t1012] 86 (0, 0)) (by (with_reducible repeat (first | refine blk_drewN ?_ _ | refine blk_drew ?_ | refine blk_alloc ?_ _)); refine blk_put (cs := #[.string t1008, .string (⟨#[]⟩ : ByteArray)]) ?_ 1 _ rfl; (with_reducible repeat (first | refine blk_drewN ?_ _ | refine blk_drew ?_ | refine blk_alloc ?_ _)); exact BK1007.out) k_ hk)); (case aO => exact (by (with_reducible repeat (first | apply Kd.R_alloc | apply Kd.R_drewN | apply Kd.R_drew)); exact Kd.R_mono (Kd.R_far (p := ⟨gb1007, 1, none⟩) (Kd.R_mono HO_7.out (fun k_ hk => (⟨hk, by first | exact hk.2 | exact hk⟩ : _ ∧ k_ ≠ gb1007))) (fun _ hk => by first | exact hk.2 | exact hk) (.string t1012)) (fun _ hk => by first | exact hk.1.2 | exact hk.1))); (case aS => exact (below_size bg_)); (case aL => have := LMc21.out; omega); intro v1016 w26 ho hb hg hat; rw [← Ny1015.out] at ho; have n0_ := am_ (blk_grown (g := gb1007) (o := .cells #[.string t1008, .string t1012] 86 (0, 0)) (by (with_reducible repeat (first | refine blk_drewN ?_ _ | refine blk_drew ?_ | refine blk_alloc ?_ _)); refine blk_put (cs := #[.string t1008, .string (⟨#[]⟩ : ByteArray)]) ?_ 1 _ rfl; (with_reducible repeat (first | refine blk_drewN ?_ _ | refine blk_drew ?_ | refine blk_alloc ?_ _)); exact BK1007.out) hg (Kd.R_away HO_7.out (fun _ hk => by first | exact hk.2 | exact hk))); have n1_ := am_ (hb); have n2_ := am_ (ho); clear BK1007; clear HB; clear HO_7; have BK1007 := n0_; have HB := n1_; have HO1017 := n2_; clear n0_ n1_ n2_; clear ho hb hg hat))
          go_roundg kj10
          case measure => have := HK1.out; have := HJ10.out; omega
          case rel => exact ⟨(t1013), (y1015), rs_, H', ⟨by have := HK1.out; have := HJ10.out; omega⟩, ⟨by (with_reducible repeat (first | apply Kd.R_alloc | apply Kd.R_drewN | apply Kd.R_drew)); exact Kd.R_mono HO1017.out (fun _ hk => trivial)⟩, ⟨bg_⟩⟩
         ·rw [if_neg c21] at H
          exact absurd H (by simp)
        ·replace c20 := Bool.eq_false_iff.mpr c20
         subst c20
         have H1 : (some (([] : List (S86)), (⟨#[]⟩ : ByteArray), false)) = some (r1, r2, r3) := by rw [if_neg (show ¬ (false = true) by decide)] at H; exact H
         clear H
         have H := H1
         clear H1
         simp only [Option.some.injEq, Prod.mk.injEq] at H
         obtain ⟨rfl, rfl, rfl⟩ := H
         go_wp2_with (first | ((with_reducible refine gate_dst (N := 8) rfl ?_); refine box_event ?hg (N := 8) ?hd (cs := #[.string (⟨#[]⟩ : ByteArray), .string (⟨#[]⟩ : ByteArray)]) (t := 86) ?hr ?_; (case hd => rfl); (case hg => rfl); (case hr => first | (go_simp; done) | (go_simp; rfl)); intro gb1007 hg w27 hbox hb; have n0_ := am_ (Kd.R_below (Kd.R_elderB (ro_ HO_7) gb1007 (Nat.le_of_eq hg.symm)) hb); have n1_ := am_ (below_step bl_ hb); have n2_ := am_ (hbox); have n3_ := am_ (gs_ hg : w.heap.size ≤ gb1007); have n4_ := n3_; clear HO_7; clear HB; have HO_7 := n0_; have HB := n1_; have BK1007 := n2_; have GW1007 := n3_; have GE1007 := n4_; clear n0_ n1_ n2_ n3_ n4_; clear hb hbox hg) | ((with_reducible refine gate_callee (f := 143) rfl ?_); refine goesL_ (some 31) rfl rfl Try.func143 (by kernel_rfl) rfl #[.string x5_10] rfl ag_ ?_; (with_reducible refine (impl_wordOf.calls kj10 x5_10 t1008 t1009 _ A16.out).mono ?_); rintro e w' ⟨rfl, ⟨nd, rfl⟩⟩; refine ⟨_, rfl, ?_⟩; (try (rw [drewN_self w27]; generalize hq_ : World.drewN w27 _ = w27; have n0_ : Aside0 (Kd.R k86 86 w27 w.heap.size (fun k_ => k_ ≠ gb1007) (.slice Ao12 x7_1.length co12) x7_1) := ⟨by rw [← hq_]; exact (by (with_reducible repeat (first | apply Kd.R_alloc | apply Kd.R_drewN | apply Kd.R_drew)); exact Kd.R_mono HO_7.out (fun _ hk => by first | exact hk.2 | exact hk))⟩; have n1_ : Aside0 (w27.heap[gb1007]? = some (.cells #[.string (⟨#[]⟩ : ByteArray), .string (⟨#[]⟩ : ByteArray)] 86 (0, 0))) := ⟨by rw [← hq_]; exact (vk_ BK1007)⟩; have n2_ : Aside0 (Below w.heap.size w w27) := ⟨by rw [← hq_]; exact bg_⟩; clear HO_7 BK1007 HB hq_; have HO_7 := n0_; have BK1007 := n1_; have HB := n2_; clear n0_ n1_ n2_)); have hcz28_0 := bc2_0 BK1007; have hcz28_1 := bc2_1 BK1007; have hfz28_0 := bf_ BK1007 0; have hfz28_1 := bf_ BK1007 1) | ((with_reducible refine gate_callee (f := 141) rfl ?_); refine goesL_ (some 37) rfl rfl Try.func141 (by kernel_rfl) rfl #[.string t1009, .string (⟨#[61]⟩ : ByteArray)] rfl ag_ ?_; (with_reducible refine (strings_CutPrefix.calls t1009 (⟨#[61]⟩ : ByteArray) t1010 true _ A17.out).mono ?_); rintro e w' ⟨rfl, ⟨nd, rfl⟩⟩; refine ⟨_, rfl, ?_⟩) | ((with_reducible refine gate_callee (f := 144) rfl ?_); refine goesL_ (some 44) rfl rfl Try.func144 (by kernel_rfl) rfl #[.string t1010] rfl ag_ ?_; (with_reducible refine (impl_unquote.calls kj10 t1010 t1012 t1013 false _ A19.out).mono ?_); rintro e w29 ⟨rfl, hb⟩; refine ⟨_, rfl, ?_⟩; have n0_ := am_ (Kd.R_below (by (with_reducible repeat (first | apply Kd.R_alloc | apply Kd.R_drewN | apply Kd.R_drew)); exact (Kd.R_mono (Kd.R_far (p := ⟨gb1007, 0, none⟩) (Kd.R_mono HO_7.out (fun k_ hk => (⟨hk, by first | exact hk.2 | exact hk⟩ : _ ∧ k_ ≠ gb1007))) (fun _ hk => by first | exact hk.2 | exact hk) (.string t1008)) (fun _ h_ => h_.1))) hb); have n1_ := am_ (blk_below (g := gb1007) (o := .cells #[.string t1008, .string (⟨#[]⟩ : ByteArray)] 86 (0, 0)) (by (with_reducible repeat (first | refine blk_drewN ?_ _ | refine blk_drew ?_ | refine blk_alloc ?_ _)); refine blk_put (cs := #[.string (⟨#[]⟩ : ByteArray), .string (⟨#[]⟩ : ByteArray)]) ?_ 0 _ rfl; (with_reducible repeat (first | refine blk_drewN ?_ _ | refine blk_drew ?_ | refine blk_alloc ?_ _)); exact BK1007.out) hb); have n2_ := am_ (below_step bg_ hb); clear HO_7; clear BK1007; clear HB; have HO_7 := n0_; have BK1007 := n1_; have HB := n2_; clear n0_ n1_ n2_; (try clear hb); (try clear hb2); (try clear hk); (try clear hi); have hcz30_0 := bc2_0 BK1007; have hcz30_1 := bc2_1 BK1007; have hfz30_0 := bf_ BK1007 0; have hfz30_1 := bf_ BK1007 1))
         go_ret3
         exact ⟨_, rf_, ni_, bg_⟩
       ·replace c18 := Bool.eq_false_iff.mpr c18
        subst c18
        have H1 : (some (([] : List (S86)), (⟨#[]⟩ : ByteArray), false)) = some (r1, r2, r3) := by rw [if_neg (show ¬ (false = true) by decide)] at H; exact H
        clear H
        have H := H1
        clear H1
        simp only [Option.some.injEq, Prod.mk.injEq] at H
        obtain ⟨rfl, rfl, rfl⟩ := H
        go_wp2_with (first | ((with_reducible refine gate_dst (N := 8) rfl ?_); refine box_event ?hg (N := 8) ?hd (cs := #[.string (⟨#[]⟩ : ByteArray), .string (⟨#[]⟩ : ByteArray)]) (t := 86) ?hr ?_; (case hd => rfl); (case hg => rfl); (case hr => first | (go_simp; done) | (go_simp; rfl)); intro gb1007 hg w31 hbox hb; have n0_ := am_ (Kd.R_below (Kd.R_elderB (ro_ HO_7) gb1007 (Nat.le_of_eq hg.symm)) hb); have n1_ := am_ (below_step bl_ hb); have n2_ := am_ (hbox); have n3_ := am_ (gs_ hg : w.heap.size ≤ gb1007); have n4_ := n3_; clear HO_7; clear HB; have HO_7 := n0_; have HB := n1_; have BK1007 := n2_; have GW1007 := n3_; have GE1007 := n4_; clear n0_ n1_ n2_ n3_ n4_; clear hb hbox hg) | ((with_reducible refine gate_callee (f := 143) rfl ?_); refine goesL_ (some 31) rfl rfl Try.func143 (by kernel_rfl) rfl #[.string x5_10] rfl ag_ ?_; (with_reducible refine (impl_wordOf.calls kj10 x5_10 t1008 t1009 _ A16.out).mono ?_); rintro e w' ⟨rfl, ⟨nd, rfl⟩⟩; refine ⟨_, rfl, ?_⟩; (try (rw [drewN_self w31]; generalize hq_ : World.drewN w31 _ = w31; have n0_ : Aside0 (Kd.R k86 86 w31 w.heap.size (fun k_ => k_ ≠ gb1007) (.slice Ao12 x7_1.length co12) x7_1) := ⟨by rw [← hq_]; exact (by (with_reducible repeat (first | apply Kd.R_alloc | apply Kd.R_drewN | apply Kd.R_drew)); exact Kd.R_mono HO_7.out (fun _ hk => by first | exact hk.2 | exact hk))⟩; have n1_ : Aside0 (w31.heap[gb1007]? = some (.cells #[.string (⟨#[]⟩ : ByteArray), .string (⟨#[]⟩ : ByteArray)] 86 (0, 0))) := ⟨by rw [← hq_]; exact (vk_ BK1007)⟩; have n2_ : Aside0 (Below w.heap.size w w31) := ⟨by rw [← hq_]; exact bg_⟩; clear HO_7 BK1007 HB hq_; have HO_7 := n0_; have BK1007 := n1_; have HB := n2_; clear n0_ n1_ n2_)); have hcz32_0 := bc2_0 BK1007; have hcz32_1 := bc2_1 BK1007; have hfz32_0 := bf_ BK1007 0; have hfz32_1 := bf_ BK1007 1) | ((with_reducible refine gate_callee (f := 141) rfl ?_); refine goesL_ (some 37) rfl rfl Try.func141 (by kernel_rfl) rfl #[.string t1009, .string (⟨#[61]⟩ : ByteArray)] rfl ag_ ?_; (with_reducible refine (strings_CutPrefix.calls t1009 (⟨#[61]⟩ : ByteArray) t1010 false _ A17.out).mono ?_); rintro e w' ⟨rfl, ⟨nd, rfl⟩⟩; refine ⟨_, rfl, ?_⟩))
        go_ret3
        exact ⟨_, rf_, ni_, bg_⟩
 ·replace c3 := Bool.eq_false_iff.mpr c3
  subst c3
  have H1 : (some (([] : List (S86)), (⟨#[]⟩ : ByteArray), false)) = some (r1, r2, r3) := by rw [if_neg (show ¬ (false = true) by decide)] at H; exact H
  clear H
  have H := H1
  clear H1
  simp only [Option.some.injEq, Prod.mk.injEq] at H
  obtain ⟨rfl, rfl, rfl⟩ := H
  go_enter Try.func100, Try.ntmps100
  go_wp2_with (first | ((with_reducible refine gate_callee (f := 141) rfl ?_); refine goesL_ (some 11) rfl rfl Try.func141 (by kernel_rfl) rfl #[.string a0, .string (⟨#[123]⟩ : ByteArray)] rfl ag_ ?_; (with_reducible refine (strings_CutPrefix.calls a0 (⟨#[123]⟩ : ByteArray) t1001 false _ A2.out).mono ?_); rintro e w' ⟨rfl, ⟨nd, rfl⟩⟩; refine ⟨_, rfl, ?_⟩))
  go_ret3
  exact ⟨_, rf_, ni_, bl_⟩

/-! ### impl_ReadLabels: function 47 -/
def impl_ReadLabels.f (k : Nat) (a0 : ByteArray) : Option ((List (S86)) × Bool) := (impl_takeLabels.f k a0).bind fun bt1001 => (if bt1001.2.2 = true then (if bt1001.2.1.toList = ([] : List UInt8) then ((impl_LabelsText.f k bt1001.1).bind fun t1006 => (if t1006.toList = a0.toList then (some (bt1001.1, true)) else (some (([] : List (S86)), false)))) else (some (([] : List (S86)), false))) else (some (([] : List (S86)), false)))
theorem impl_ReadLabels.mono : ∀ a0 k, LeO (impl_ReadLabels.f k a0) (impl_ReadLabels.f (k + 1) a0) := by
 intro a0 k
 unfold impl_ReadLabels.f
 repeat' first
   | with_reducible first | exact impl_LabelsText.mono _ _ | exact impl_takeLabels.mono _ _ | exact LeO.refl _ | exact LeO.none _ | refine LeO.ite ?_ ?_ | refine LeO.bind ?_ (fun _ => ?_)
   | exact impl_LabelsText.mono _ _
   | exact impl_takeLabels.mono _ _
   | exact LeO.none _
   | refine LeO.ite ?_ ?_
   | refine LeO.bind ?_ (fun _ => ?_)
set_option maxHeartbeats 8000000 in
set_option maxRecDepth 100000 in
theorem impl_ReadLabels.calls (k : Nat) (a0 : ByteArray) (r1 : List (S86)) (r2 : Bool) (w : World) (h : impl_ReadLabels.f k a0 = some (r1, r2)) :
  Calls Try.prog 47 #[.string a0] w fun e w' => ∃ v0_ : Value, e = .returned (.tuple #[v0_, .bool r2]) ∧ Kd.R k86 86 w' w.heap.size (fun _ => True) v0_ r1 ∧ Below w.heap.size w w' := by
 have HB := am_ (Below.refl w.heap.size w)
 have H : ((impl_takeLabels.f k a0).bind fun bt1001 => (if bt1001.2.2 = true then (if bt1001.2.1.toList = ([] : List UInt8) then ((impl_LabelsText.f k bt1001.1).bind fun t1006 => (if t1006.toList = a0.toList then (some (bt1001.1, true)) else (some (([] : List (S86)), false)))) else (some (([] : List (S86)), false))) else (some (([] : List (S86)), false)))) = some (r1, r2) := h
 clear h
 replace H := Option.bind_eq_some_iff.mp H
 obtain ⟨⟨t1001, t1002, t1003⟩, A20, H⟩ := H
 replace H : (if t1003 = true then (if t1002.toList = ([] : List UInt8) then ((impl_LabelsText.f k t1001).bind fun t1006 => (if t1006.toList = a0.toList then (some (t1001, true)) else (some (([] : List (S86)), false)))) else (some (([] : List (S86)), false))) else (some (([] : List (S86)), false))) = some (r1, r2) := H
 have A2 := am_ A20
 clear A20
 by_cases c3 : t1003 = true
 ·subst c3
  have H1 : (if t1002.toList = ([] : List UInt8) then ((impl_LabelsText.f k t1001).bind fun t1006 => (if t1006.toList = a0.toList then (some (t1001, true)) else (some (([] : List (S86)), false)))) else (some (([] : List (S86)), false))) = some (r1, r2) := by rw [if_pos rfl] at H; exact H
  clear H
  have H := H1
  clear H1
  by_cases c4 : t1002.toList = ([] : List UInt8)
  ·rw [if_pos c4] at H
   have c4b0 : (t1002.toList == ([] : List UInt8)) = true := beq_iff_eq.mpr c4
   have c4b1 : (t1002.toList != ([] : List UInt8)) = false := bne_eq_false_iff_eq.mpr c4
   clear c4
   replace H := Option.bind_eq_some_iff.mp H
   obtain ⟨t1006, A50, H⟩ := H
   replace H : (if t1006.toList = a0.toList then (some (t1001, true)) else (some (([] : List (S86)), false))) = some (r1, r2) := H
   have A5 := am_ A50
   clear A50
   by_cases c6 : t1006.toList = a0.toList
   ·rw [if_pos c6] at H
    have c6b0 : (t1006.toList == a0.toList) = true := beq_iff_eq.mpr c6
    have c6b1 : (t1006.toList != a0.toList) = false := bne_eq_false_iff_eq.mpr c6
    clear c6
    simp only [Option.some.injEq, Prod.mk.injEq] at H
    obtain ⟨rfl, rfl⟩ := H
    go_enter Try.func47, Try.ntmps47
    go_wp2_with (first | ((with_reducible refine gate_callee (f := 100) rfl ?_); refine goesL_ (some 9) rfl rfl Try.func100 (by kernel_rfl) rfl #[.string a0] rfl ag_ ?_; (with_reducible refine (impl_takeLabels.calls k a0 t1001 t1002 true _ A2.out).mono ?_); rintro e w7 ⟨v1004, rfl, ho0, hb⟩; refine ⟨_, rfl, ?_⟩; have n0_ := am_ (Kd.R_lower ho0 (below_size bl_)); have n1_ := am_ (below_step bl_ hb); clear HB; have HO1005 := n0_; have HB := n1_; clear n0_ n1_; (try clear hb); (try clear hb2); (try clear hk); (try clear hi); (try clear ho0); obtain ⟨Ao8, co8, eo8⟩ := Kd.R_slice HO1005.out; subst eo8) | (go_at_call 27; (with_reducible refine (impl_LabelsText.calls k _ _ t1001 t1006 _ ?side1 ?side2 A5.out).mono ?_); (case side1 => exact cc_ (Kd.R_reads' HO1005.out).2.2); (case side2 => exact (Kd.R_reads' HO1005.out).2.1); rintro e w9 ⟨rfl, hb⟩; have n0_ := am_ (Kd.R_below (ro_ HO1005) hb); have n1_ := am_ (below_step bl_ hb); clear HO1005; clear HB; have HO1005 := n0_; have HB := n1_; clear n0_ n1_; (try clear hb); (try clear hb2); (try clear hk); (try clear hi)))
    go_ret2
    exact ⟨_, rf_, by (with_reducible repeat (first | apply Kd.R_alloc | apply Kd.R_drewN | apply Kd.R_drew)); exact HO1005.out, bl_⟩
   ·rw [if_neg c6] at H
    have c6b0 : (t1006.toList == a0.toList) = false := beq_eq_false_iff_ne.mpr c6
    have c6b1 : (t1006.toList != a0.toList) = true := bne_iff_ne.mpr c6
    simp only [Option.some.injEq, Prod.mk.injEq] at H
    obtain ⟨rfl, rfl⟩ := H
    go_enter Try.func47, Try.ntmps47
    go_wp2_with (first | ((with_reducible refine gate_callee (f := 100) rfl ?_); refine goesL_ (some 9) rfl rfl Try.func100 (by kernel_rfl) rfl #[.string a0] rfl ag_ ?_; (with_reducible refine (impl_takeLabels.calls k a0 t1001 t1002 true _ A2.out).mono ?_); rintro e w10 ⟨v1004, rfl, ho0, hb⟩; refine ⟨_, rfl, ?_⟩; have n0_ := am_ (Kd.R_lower ho0 (below_size bl_)); have n1_ := am_ (below_step bl_ hb); clear HB; have HO1005 := n0_; have HB := n1_; clear n0_ n1_; (try clear hb); (try clear hb2); (try clear hk); (try clear hi); (try clear ho0); obtain ⟨Ao11, co11, eo11⟩ := Kd.R_slice HO1005.out; subst eo11) | (go_at_call 27; (with_reducible refine (impl_LabelsText.calls k _ _ t1001 t1006 _ ?side1 ?side2 A5.out).mono ?_); (case side1 => exact cc_ (Kd.R_reads' HO1005.out).2.2); (case side2 => exact (Kd.R_reads' HO1005.out).2.1); rintro e w12 ⟨rfl, hb⟩; have n0_ := am_ (Kd.R_below (ro_ HO1005) hb); have n1_ := am_ (below_step bl_ hb); clear HO1005; clear HB; have HO1005 := n0_; have HB := n1_; clear n0_ n1_; (try clear hb); (try clear hb2); (try clear hk); (try clear hi)))
    go_ret2
    exact ⟨_, rf_, ni_, bl_⟩
  ·rw [if_neg c4] at H
   have c4b0 : (t1002.toList == ([] : List UInt8)) = false := beq_eq_false_iff_ne.mpr c4
   have c4b1 : (t1002.toList != ([] : List UInt8)) = true := bne_iff_ne.mpr c4
   simp only [Option.some.injEq, Prod.mk.injEq] at H
   obtain ⟨rfl, rfl⟩ := H
   go_enter Try.func47, Try.ntmps47
   go_wp2_with (first | ((with_reducible refine gate_callee (f := 100) rfl ?_); refine goesL_ (some 9) rfl rfl Try.func100 (by kernel_rfl) rfl #[.string a0] rfl ag_ ?_; (with_reducible refine (impl_takeLabels.calls k a0 t1001 t1002 true _ A2.out).mono ?_); rintro e w13 ⟨v1004, rfl, ho0, hb⟩; refine ⟨_, rfl, ?_⟩; have n0_ := am_ (Kd.R_lower ho0 (below_size bl_)); have n1_ := am_ (below_step bl_ hb); clear HB; have HO1005 := n0_; have HB := n1_; clear n0_ n1_; (try clear hb); (try clear hb2); (try clear hk); (try clear hi); (try clear ho0)))
   go_ret2
   exact ⟨_, rf_, ni_, bl_⟩
 ·replace c3 := Bool.eq_false_iff.mpr c3
  subst c3
  have H1 : (some (([] : List (S86)), false)) = some (r1, r2) := by rw [if_neg (show ¬ (false = true) by decide)] at H; exact H
  clear H
  have H := H1
  clear H1
  simp only [Option.some.injEq, Prod.mk.injEq] at H
  obtain ⟨rfl, rfl⟩ := H
  go_enter Try.func47, Try.ntmps47
  go_wp2_with (first | ((with_reducible refine gate_callee (f := 100) rfl ?_); refine goesL_ (some 9) rfl rfl Try.func100 (by kernel_rfl) rfl #[.string a0] rfl ag_ ?_; (with_reducible refine (impl_takeLabels.calls k a0 t1001 t1002 false _ A2.out).mono ?_); rintro e w14 ⟨v1004, rfl, ho0, hb⟩; refine ⟨_, rfl, ?_⟩; have n0_ := am_ (Kd.R_lower ho0 (below_size bl_)); have n1_ := am_ (below_step bl_ hb); clear HB; have HO1005 := n0_; have HB := n1_; clear n0_ n1_; (try clear hb); (try clear hb2); (try clear hk); (try clear hi); (try clear ho0)))
  go_ret2
  exact ⟨_, rf_, ni_, bl_⟩

/-! ### laws_FnExactReadLabels: function 11 -/
mutual
def laws_FnExactReadLabels.j0 : Nat → ByteArray → List (S86) → Bool → List (S86) → Bool → Option (Bool)
 | 0, _, _, _, _, _ => none
 | k + 1, x0, x3, x4, x5, x32 => if x32 = true then (none) else ((laws_markLabelS.f k x5 1).bind fun bt1010 => ((laws_heldLabelS.f k bt1010.2 1).bind fun t1012 => (if t1012 < 0 then (none) else (if t1012 = bt1010.1 then ((impl_ReadLabels.f k x0).bind fun bt1013 => ((laws_eqLabelS.f k bt1013.1 x3).bind fun t1017 => (if t1017 = true then (laws_FnExactReadLabels.j1 k bt1010.2 bt1010.1 (bt1013.2 != x4)) else (laws_FnExactReadLabels.j1 k bt1010.2 bt1010.1 true)))) else (none)))))
def laws_FnExactReadLabels.j1 : Nat → List (S86) → Int → Bool → Option (Bool)
 | 0, _, _, _ => none
 | k + 1, x5, x7, x57 => if x57 = true then (none) else ((laws_heldLabelS.f k x5 1).bind fun t1018 => (if t1018 < 0 then (none) else (if t1018 = x7 then (some true) else (none))))
end
def laws_FnExactReadLabels.f (k : Nat) (a0 : ByteArray) : Option (Bool) := if (a0.size : Int) > 1048576 then (some true) else ((spec_ReadLabels.f k a0).bind fun bt1001 => ((impl_ReadLabels.f k a0).bind fun bt1005 => ((laws_eqLabelS.f k bt1005.1 bt1001.1).bind fun t1009 => (if t1009 = true then (laws_FnExactReadLabels.j0 k a0 bt1001.1 bt1001.2 bt1005.1 (bt1005.2 != bt1001.2)) else (laws_FnExactReadLabels.j0 k a0 bt1001.1 bt1001.2 bt1005.1 true)))))
theorem laws_FnExactReadLabels.mono_l : ∀ k, (∀ y0 y1 y2 y3 y4, LeO (laws_FnExactReadLabels.j0 k y0 y1 y2 y3 y4) (laws_FnExactReadLabels.j0 (k + 1) y0 y1 y2 y3 y4)) ∧ (∀ y0 y1 y2, LeO (laws_FnExactReadLabels.j1 k y0 y1 y2) (laws_FnExactReadLabels.j1 (k + 1) y0 y1 y2))
 | 0 => ⟨fun _ _ _ _ _ r h => by simp [laws_FnExactReadLabels.j0] at h, fun _ _ _ r h => by simp [laws_FnExactReadLabels.j1] at h⟩
 | k + 1 => by
  obtain ⟨ih0, ih1⟩ := laws_FnExactReadLabels.mono_l k
  refine ⟨?_, ?_⟩
  ·intro y0 y1 y2 y3 y4
   unfold laws_FnExactReadLabels.j0
   repeat' first
   | with_reducible first | exact ih0 _ _ _ _ _ | exact ih1 _ _ _ | exact impl_ReadLabels.mono _ _ | exact laws_eqLabelS.mono _ _ _ | exact laws_heldLabelS.mono _ _ _ | exact laws_markLabelS.mono _ _ _ | exact spec_ReadLabels.mono _ _ | exact LeO.refl _ | exact LeO.none _ | refine LeO.ite ?_ ?_ | refine LeO.bind ?_ (fun _ => ?_)
   | exact ih0 _ _ _ _ _
   | exact ih1 _ _ _
   | exact impl_ReadLabels.mono _ _
   | exact laws_eqLabelS.mono _ _ _
   | exact laws_heldLabelS.mono _ _ _
   | exact laws_markLabelS.mono _ _ _
   | exact spec_ReadLabels.mono _ _
   | exact LeO.none _
   | refine LeO.ite ?_ ?_
   | refine LeO.bind ?_ (fun _ => ?_)
  ·intro y0 y1 y2
   unfold laws_FnExactReadLabels.j1
   repeat' first
   | with_reducible first | exact ih0 _ _ _ _ _ | exact ih1 _ _ _ | exact impl_ReadLabels.mono _ _ | exact laws_eqLabelS.mono _ _ _ | exact laws_heldLabelS.mono _ _ _ | exact laws_markLabelS.mono _ _ _ | exact spec_ReadLabels.mono _ _ | exact LeO.refl _ | exact LeO.none _ | refine LeO.ite ?_ ?_ | refine LeO.bind ?_ (fun _ => ?_)
   | exact ih0 _ _ _ _ _
   | exact ih1 _ _ _
   | exact impl_ReadLabels.mono _ _
   | exact laws_eqLabelS.mono _ _ _
   | exact laws_heldLabelS.mono _ _ _
   | exact laws_markLabelS.mono _ _ _
   | exact spec_ReadLabels.mono _ _
   | exact LeO.none _
   | refine LeO.ite ?_ ?_
   | refine LeO.bind ?_ (fun _ => ?_)
theorem laws_FnExactReadLabels.mono : ∀ a0 k, LeO (laws_FnExactReadLabels.f k a0) (laws_FnExactReadLabels.f (k + 1) a0) := by
 intro a0 k
 obtain ⟨ih0, ih1⟩ := laws_FnExactReadLabels.mono_l k
 unfold laws_FnExactReadLabels.f
 repeat' first
   | with_reducible first | exact ih0 _ _ _ _ _ | exact ih1 _ _ _ | exact impl_ReadLabels.mono _ _ | exact laws_eqLabelS.mono _ _ _ | exact laws_heldLabelS.mono _ _ _ | exact laws_markLabelS.mono _ _ _ | exact spec_ReadLabels.mono _ _ | exact LeO.refl _ | exact LeO.none _ | refine LeO.ite ?_ ?_ | refine LeO.bind ?_ (fun _ => ?_)
   | exact ih0 _ _ _ _ _
   | exact ih1 _ _ _
   | exact impl_ReadLabels.mono _ _
   | exact laws_eqLabelS.mono _ _ _
   | exact laws_heldLabelS.mono _ _ _
   | exact laws_markLabelS.mono _ _ _
   | exact spec_ReadLabels.mono _ _
   | exact LeO.none _
   | refine LeO.ite ?_ ?_
   | refine LeO.bind ?_ (fun _ => ?_)
set_option maxHeartbeats 8000000 in
set_option maxRecDepth 100000 in
theorem laws_FnExactReadLabels.calls (k : Nat) (a0 : ByteArray) (r : Bool) (w : World) (h : laws_FnExactReadLabels.f k a0 = some r) :
  Calls Try.prog 11 #[.string a0] w fun e w' => e = .returned (.bool r) ∧ Below w.heap.size w w' := by
 have HB := am_ (Below.refl w.heap.size w)
 have H : (if (a0.size : Int) > 1048576 then (some true) else ((spec_ReadLabels.f k a0).bind fun bt1001 => ((impl_ReadLabels.f k a0).bind fun bt1005 => ((laws_eqLabelS.f k bt1005.1 bt1001.1).bind fun t1009 => (if t1009 = true then (laws_FnExactReadLabels.j0 k a0 bt1001.1 bt1001.2 bt1005.1 (bt1005.2 != bt1001.2)) else (laws_FnExactReadLabels.j0 k a0 bt1001.1 bt1001.2 bt1005.1 true)))))) = some r := h
 clear h
 by_cases c2 : (a0.size : Int) > 1048576
 ·rw [if_pos c2] at H
  have c2b0 : decide (1048576 < (a0.size : Int)) = true := decide_eq_true c2
  have c2b1 : decide (1048576 < a0.size) = true := decide_eq_true (by omega)
  clear c2
  obtain rfl := Option.some.inj H
  go_enter Try.func11, Try.ntmps11
  go_wp2
  go_ret
  exact ⟨rf_, bl_⟩
 ·rw [if_neg c2] at H
  have c2b0 : decide (1048576 < (a0.size : Int)) = false := decide_eq_false c2
  have c2b1 : decide (1048576 < a0.size) = false := decide_eq_false (by omega)
  clear c2
  replace H := Option.bind_eq_some_iff.mp H
  obtain ⟨⟨t1001, t1002⟩, A30, H⟩ := H
  replace H : ((impl_ReadLabels.f k a0).bind fun bt1005 => ((laws_eqLabelS.f k bt1005.1 t1001).bind fun t1009 => (if t1009 = true then (laws_FnExactReadLabels.j0 k a0 t1001 t1002 bt1005.1 (bt1005.2 != t1002)) else (laws_FnExactReadLabels.j0 k a0 t1001 t1002 bt1005.1 true)))) = some r := H
  have A3 := am_ A30
  clear A30
  replace H := Option.bind_eq_some_iff.mp H
  obtain ⟨⟨t1005, t1006⟩, A40, H⟩ := H
  replace H : ((laws_eqLabelS.f k t1005 t1001).bind fun t1009 => (if t1009 = true then (laws_FnExactReadLabels.j0 k a0 t1001 t1002 t1005 (t1006 != t1002)) else (laws_FnExactReadLabels.j0 k a0 t1001 t1002 t1005 true))) = some r := H
  have A4 := am_ A40
  clear A40
  have HC5 := am_ H
  clear H
  go_enter Try.func11, Try.ntmps11
  go_upto_region 5 with (first | ((with_reducible refine gate_callee (f := 46) rfl ?_); refine goesL_ (some 16) rfl rfl Try.func46 (by kernel_rfl) rfl #[.string a0] rfl ag_ ?_; (with_reducible refine (spec_ReadLabels.calls k a0 t1001 t1002 _ A3.out).mono ?_); rintro e w6 ⟨v1003, rfl, ho0, hb⟩; refine ⟨_, rfl, ?_⟩; have n0_ := am_ (Kd.R_lower ho0 (below_size bl_)); have n1_ := am_ (below_step bl_ hb); clear HB; have HO1004 := n0_; have HB := n1_; clear n0_ n1_; (try clear hb); (try clear hb2); (try clear hk); (try clear hi); (try clear ho0)) | ((with_reducible refine gate_callee (f := 47) rfl ?_); refine goesL_ (some 21) rfl rfl Try.func47 (by kernel_rfl) rfl #[.string a0] rfl ag_ ?_; (with_reducible refine (impl_ReadLabels.calls k a0 t1005 t1006 _ A4.out).mono ?_); rintro e w7 ⟨v1007, rfl, ho0, hb⟩; refine ⟨_, rfl, ?_⟩; have n0_ := am_ (Kd.R_elder' (ro_ HO1004) (Kd.R_base ho0) hb); have n1_ := am_ (Kd.R_lower (Kd.R_new' ho0 (Kd.R_lt (ro_ HO1004))) (below_size bl_)); have n2_ := am_ (below_step bl_ hb); clear HO1004; clear HB; have HO1004 := n0_; have HO1008 := n1_; have HB := n2_; clear n0_ n1_ n2_; (try clear hb); (try clear hb2); (try clear hk); (try clear hi); (try clear ho0)))
  (try simp only [Act.put, List.setIfInBounds_toArray, List.set_cons_zero, List.set_cons_succ])
  go_cut [32] (fun v32 wc => ∃ (kq : Nat) (x32_4 : Bool), v32 = .bool x32_4 ∧ Aside0 (laws_FnExactReadLabels.j0 kq a0 t1001 t1002 t1005 x32_4 = some r) ∧ Aside0 (kq ≤ k) ∧ Aside0 (Kd.R k86 86 wc w.heap.size (fun k_ => some k_ ≠ (v1007 : Value).ownBlock) v1003 t1001) ∧ Aside0 (Kd.R k86 86 wc w.heap.size (fun k_ => some k_ ≠ (v1003 : Value).ownBlock) v1007 t1005) ∧ Aside0 (Below w.heap.size w wc))
  case first =>
   have H := HC5.out
   clear HC5
   replace H := Option.bind_eq_some_iff.mp H
   obtain ⟨t1009, A80, H⟩ := H
   replace H : (if t1009 = true then (laws_FnExactReadLabels.j0 k a0 t1001 t1002 t1005 (t1006 != t1002)) else (laws_FnExactReadLabels.j0 k a0 t1001 t1002 t1005 true)) = some r := H
   have A8 := am_ A80
   clear A80
   by_cases c9 : t1009 = true
   ·subst c9
    have H1 : (laws_FnExactReadLabels.j0 k a0 t1001 t1002 t1005 (t1006 != t1002)) = some r := by rw [if_pos rfl] at H; exact H
    clear H
    have H := H1
    clear H1
    have H' := am_ H
    clear H
    obtain ⟨Ao10, co10, eo10⟩ := Kd.R_slice HO1008.out
    subst eo10
    obtain ⟨Ao11, co11, eo11⟩ := Kd.R_slice HO1004.out
    subst eo11
    go_wp2_with (first | ((with_reducible refine gate_callee (f := 23) rfl ?_); refine goesL_ (some 26) rfl rfl Try.func23 (by kernel_rfl) rfl #[.slice Ao10 t1005.length co10, .slice Ao11 t1001.length co11] rfl ag_ ?_; (with_reducible refine (laws_eqLabelS.calls k _ _ t1005 _ _ t1001 true _ ?side1 ?side2 ?side3 ?side4 A8.out).mono ?_); (case side1 => exact cc_ (Kd.R_reads' HO1008.out).2.2); (case side2 => exact (Kd.R_reads' HO1008.out).2.1); (case side3 => exact cc_ (Kd.R_reads' HO1004.out).2.2); (case side4 => exact (Kd.R_reads' HO1004.out).2.1); rintro e w12 ⟨rfl, hb⟩; refine ⟨_, rfl, ?_⟩; have n0_ := am_ (Kd.R_below (ro_ HO1004) hb); have n1_ := am_ (Kd.R_below (ro_ HO1008) hb); have n2_ := am_ (below_step bl_ hb); clear HO1004; clear HO1008; clear HB; have HO1004 := n0_; have HO1008 := n1_; have HB := n2_; clear n0_ n1_ n2_; (try clear hb); (try clear hb2); (try clear hk); (try clear hi)))
    go_meet
    case rel => exact ⟨_, ((t1006 != t1002)), rs_, H', ⟨by first | omega | exact Nat.le_refl _⟩, ⟨by (with_reducible repeat (first | apply Kd.R_alloc | apply Kd.R_drewN | apply Kd.R_drew)); exact Kd.R_mono HO1004.out (fun _ hk => hk.2)⟩, ⟨by (with_reducible repeat (first | apply Kd.R_alloc | apply Kd.R_drewN | apply Kd.R_drew)); exact Kd.R_mono HO1008.out (fun _ hk => hk.2)⟩, ⟨bl_⟩⟩
   ·replace c9 := Bool.eq_false_iff.mpr c9
    subst c9
    have H1 : (laws_FnExactReadLabels.j0 k a0 t1001 t1002 t1005 true) = some r := by rw [if_neg (show ¬ (false = true) by decide)] at H; exact H
    clear H
    have H := H1
    clear H1
    have H' := am_ H
    clear H
    obtain ⟨Ao13, co13, eo13⟩ := Kd.R_slice HO1008.out
    subst eo13
    obtain ⟨Ao14, co14, eo14⟩ := Kd.R_slice HO1004.out
    subst eo14
    go_wp2_with (first | ((with_reducible refine gate_callee (f := 23) rfl ?_); refine goesL_ (some 26) rfl rfl Try.func23 (by kernel_rfl) rfl #[.slice Ao13 t1005.length co13, .slice Ao14 t1001.length co14] rfl ag_ ?_; (with_reducible refine (laws_eqLabelS.calls k _ _ t1005 _ _ t1001 false _ ?side1 ?side2 ?side3 ?side4 A8.out).mono ?_); (case side1 => exact cc_ (Kd.R_reads' HO1008.out).2.2); (case side2 => exact (Kd.R_reads' HO1008.out).2.1); (case side3 => exact cc_ (Kd.R_reads' HO1004.out).2.2); (case side4 => exact (Kd.R_reads' HO1004.out).2.1); rintro e w15 ⟨rfl, hb⟩; refine ⟨_, rfl, ?_⟩; have n0_ := am_ (Kd.R_below (ro_ HO1004) hb); have n1_ := am_ (Kd.R_below (ro_ HO1008) hb); have n2_ := am_ (below_step bl_ hb); clear HO1004; clear HO1008; clear HB; have HO1004 := n0_; have HO1008 := n1_; have HB := n2_; clear n0_ n1_ n2_; (try clear hb); (try clear hb2); (try clear hk); (try clear hi)))
    go_meet
    case rel => exact ⟨_, (true), rs_, H', ⟨by first | omega | exact Nat.le_refl _⟩, ⟨by (with_reducible repeat (first | apply Kd.R_alloc | apply Kd.R_drewN | apply Kd.R_drew)); exact Kd.R_mono HO1004.out (fun _ hk => hk.2)⟩, ⟨by (with_reducible repeat (first | apply Kd.R_alloc | apply Kd.R_drewN | apply Kd.R_drew)); exact Kd.R_mono HO1008.out (fun _ hk => hk.2)⟩, ⟨bl_⟩⟩
  case rest =>
   clear HC5
   try clear c1
   try clear c2
   try clear c2b0
   try clear c2b1
   try clear p2
   try clear c4
   try clear c9
   try clear c11
   obtain ⟨kq, x32_4, rfl, HA, HJ4, HO_3, HO_5, HB⟩ := hcut
   cases kq with
   | zero => exact absurd HA.out (by simp [laws_FnExactReadLabels.j0])
   | succ kj4 =>
    have H := HA.out
    clear HA
    simp only [laws_FnExactReadLabels.j0] at H
    by_cases c16 : x32_4 = true
    ·subst c16
     have H1 : (none) = some r := by rw [if_pos rfl] at H; exact H
     clear H
     have H := H1
     clear H1
     exact absurd H (by simp)
    ·replace c16 := Bool.eq_false_iff.mpr c16
     subst c16
     have H1 : ((laws_markLabelS.f kj4 t1005 1).bind fun bt1010 => ((laws_heldLabelS.f kj4 bt1010.2 1).bind fun t1012 => (if t1012 < 0 then (none) else (if t1012 = bt1010.1 then ((impl_ReadLabels.f kj4 a0).bind fun bt1013 => ((laws_eqLabelS.f kj4 bt1013.1 t1001).bind fun t1017 => (if t1017 = true then (laws_FnExactReadLabels.j1 kj4 bt1010.2 bt1010.1 (bt1013.2 != t1002)) else (laws_FnExactReadLabels.j1 kj4 bt1010.2 bt1010.1 true)))) else (none))))) = some r := by rw [if_neg (show ¬ (false = true) by decide)] at H; exact H
     clear H
     have H := H1
     clear H1
     replace H := Option.bind_eq_some_iff.mp H
     obtain ⟨⟨t1010, t1011⟩, A170, H⟩ := H
     replace H : ((laws_heldLabelS.f kj4 t1011 1).bind fun t1012 => (if t1012 < 0 then (none) else (if t1012 = t1010 then ((impl_ReadLabels.f kj4 a0).bind fun bt1013 => ((laws_eqLabelS.f kj4 bt1013.1 t1001).bind fun t1017 => (if t1017 = true then (laws_FnExactReadLabels.j1 kj4 t1011 t1010 (bt1013.2 != t1002)) else (laws_FnExactReadLabels.j1 kj4 t1011 t1010 true)))) else (none)))) = some r := H
     have A17 := am_ A170
     clear A170
     replace H := Option.bind_eq_some_iff.mp H
     obtain ⟨t1012, A180, H⟩ := H
     replace H : (if t1012 < 0 then (none) else (if t1012 = t1010 then ((impl_ReadLabels.f kj4 a0).bind fun bt1013 => ((laws_eqLabelS.f kj4 bt1013.1 t1001).bind fun t1017 => (if t1017 = true then (laws_FnExactReadLabels.j1 kj4 t1011 t1010 (bt1013.2 != t1002)) else (laws_FnExactReadLabels.j1 kj4 t1011 t1010 true)))) else (none))) = some r := H
     have A18 := am_ A180
     clear A180
     by_cases c19 : t1012 < 0
     ·rw [if_pos c19] at H
      exact absurd H (by simp)
     ·rw [if_neg c19] at H
      have c19b0 : decide (t1012 < 0) = false := decide_eq_false c19
      clear c19
      by_cases c20 : t1012 = t1010
      ·rw [if_pos c20] at H
       have c20b0 : (t1012 == t1010) = true := beq_iff_eq.mpr c20
       have c20b1 : (t1012 != t1010) = false := bne_eq_false_iff_eq.mpr c20
       clear c20
       replace H := Option.bind_eq_some_iff.mp H
       obtain ⟨⟨t1013, t1014⟩, A210, H⟩ := H
       replace H : ((laws_eqLabelS.f kj4 t1013 t1001).bind fun t1017 => (if t1017 = true then (laws_FnExactReadLabels.j1 kj4 t1011 t1010 (t1014 != t1002)) else (laws_FnExactReadLabels.j1 kj4 t1011 t1010 true))) = some r := H
       have A21 := am_ A210
       clear A210
       have HC22 := am_ H
       clear H
       obtain ⟨Ao23, co23, eo23⟩ := Kd.R_slice HO_5.out
       subst eo23
       go_upto_region 16 with (first | ((with_reducible refine gate_callee (f := 24) rfl ?_); refine goesL_ (some 35) rfl rfl Try.func24 (by kernel_rfl) rfl #[.slice Ao23 t1005.length co23, .int .i64 1] rfl ag_ ?_; (with_reducible refine (laws_markLabelS.calls kj4 (fun k_ => some k_ = (.slice Ao23 t1005.length co23 : Value).ownBlock) (.slice Ao23 t1005.length co23) t1005 1 t1010 t1011 w _ ?side1 ?side2 A17.out).mono ?_); (case side1 => repeat (first | (with_reducible first | exact HB.out | apply below_alloc | apply pw_below_drewN | apply below_drew1) | exact HB.out)); (case side2 => exact Kd.R_tight rfl HO_5.out); rintro e w24 ⟨rfl, hy0, hb, hkp⟩; refine ⟨_, rfl, ?_⟩; have n0_ := am_ (Kd.R_mono (ok' := fun k_ => some k_ ≠ (.slice Ao23 t1005.length co23 : Value).ownBlock) (Kd.R_keptB (HO_3.out) hkp (fun k_ hk_ hs_ => (hk_) hs_)) (fun k_ hk_ => hk_.1)); have n1_ := am_ (Kd.R_reok rfl hy0 (fun k_ e_ => HO_5.out.1 k_ e_)); have n2_ := am_ (hb); clear HO_3; clear HO_5; clear HB; have HO_3 := n0_; have HO_5 := n1_; have HB := n2_; clear n0_ n1_ n2_; (try clear hb); (try clear hkp); (try clear hy0)) | ((with_reducible refine gate_callee (f := 25) rfl ?_); refine goesL_ (some 38) rfl rfl Try.func25 (by kernel_rfl) rfl #[.slice Ao23 t1011.length co23, .int .i64 1] rfl (by (try simp only [List.map_toArray, List.map_cons, List.map_nil]); first | done | (rw [show t1011.length = t1005.length from (Kd.R_reads' HO_5.out).1.symm] <;> rfl) | rfl | (simp only [List.length_drop, List.length_take]; rfl)) ?_; (with_reducible refine (laws_heldLabelS.calls kj4 _ _ t1011 1 t1012 _ ?side1 ?side2 A18.out).mono ?_); (case side1 => exact cc_ (Kd.R_reads' HO_5.out).2.2); (case side2 => rw [show t1011.length = t1005.length from (Kd.R_reads' HO_5.out).1.symm]; exact (Kd.R_reads' HO_5.out).2.1); rintro e w25 ⟨rfl, hb⟩; refine ⟨_, rfl, ?_⟩; have n0_ := am_ (Kd.R_below (ro_ HO_3) hb); have n1_ := am_ (Kd.R_below (ro_ HO_5) hb); have n2_ := am_ (below_step bl_ hb); clear HO_3; clear HO_5; clear HB; have HO_3 := n0_; have HO_5 := n1_; have HB := n2_; clear n0_ n1_ n2_; (try clear hb); (try clear hb2); (try clear hk); (try clear hi)) | ((with_reducible refine gate_callee (f := 47) rfl ?_); refine goesL_ (some 46) rfl rfl Try.func47 (by kernel_rfl) rfl #[.string a0] rfl ag_ ?_; (with_reducible refine (impl_ReadLabels.calls kj4 a0 t1013 t1014 _ A21.out).mono ?_); rintro e w26 ⟨v1015, rfl, ho0, hb⟩; refine ⟨_, rfl, ?_⟩; have n0_ := am_ (Kd.R_elder' (ro_ HO_3) (Kd.R_base ho0) hb); have n1_ := am_ (Kd.R_elder' (ro_ HO_5) (Kd.R_base ho0) hb); have n2_ := am_ (Kd.R_lower (Kd.R_new' (Kd.R_new' ho0 (Kd.R_lt (ro_ HO_3))) (Kd.R_lt (ro_ HO_5))) (below_size bl_)); have n3_ := am_ (below_step bl_ hb); clear HO_3; clear HO_5; clear HB; have HO_3 := n0_; have HO_5 := n1_; have HO1016 := n2_; have HB := n3_; clear n0_ n1_ n2_ n3_; (try clear hb); (try clear hb2); (try clear hk); (try clear hi); (try clear ho0)))
       (try simp only [Act.put, List.setIfInBounds_toArray, List.set_cons_zero, List.set_cons_succ])
       go_cut [57] (fun v57 wc => ∃ (kq : Nat) (x57_21 : Bool), v57 = .bool x57_21 ∧ Aside0 (laws_FnExactReadLabels.j1 kq t1011 t1010 x57_21 = some r) ∧ Aside0 (kq ≤ kj4) ∧ Aside0 (Kd.R k86 86 wc w.heap.size (fun _ => True) (.slice Ao23 t1005.length co23) t1011) ∧ Aside0 (Below w.heap.size w wc))
       case first =>
        have H := HC22.out
        clear HC22
        replace H := Option.bind_eq_some_iff.mp H
        obtain ⟨t1017, A270, H⟩ := H
        replace H : (if t1017 = true then (laws_FnExactReadLabels.j1 kj4 t1011 t1010 (t1014 != t1002)) else (laws_FnExactReadLabels.j1 kj4 t1011 t1010 true)) = some r := H
        have A27 := am_ A270
        clear A270
        by_cases c28 : t1017 = true
        ·subst c28
         have H1 : (laws_FnExactReadLabels.j1 kj4 t1011 t1010 (t1014 != t1002)) = some r := by rw [if_pos rfl] at H; exact H
         clear H
         have H := H1
         clear H1
         have H' := am_ H
         clear H
         obtain ⟨Ao29, co29, eo29⟩ := Kd.R_slice HO1016.out
         subst eo29
         obtain ⟨Ao30, co30, eo30⟩ := Kd.R_slice HO_3.out
         subst eo30
         go_wp2_with (first | ((with_reducible refine gate_callee (f := 23) rfl ?_); refine goesL_ (some 51) rfl rfl Try.func23 (by kernel_rfl) rfl #[.slice Ao29 t1013.length co29, .slice Ao30 t1001.length co30] rfl ag_ ?_; (with_reducible refine (laws_eqLabelS.calls kj4 _ _ t1013 _ _ t1001 true _ ?side1 ?side2 ?side3 ?side4 A27.out).mono ?_); (case side1 => exact cc_ (Kd.R_reads' HO1016.out).2.2); (case side2 => exact (Kd.R_reads' HO1016.out).2.1); (case side3 => exact cc_ (Kd.R_reads' HO_3.out).2.2); (case side4 => exact (Kd.R_reads' HO_3.out).2.1); rintro e w31 ⟨rfl, hb⟩; refine ⟨_, rfl, ?_⟩; have n0_ := am_ (Kd.R_below (ro_ HO_3) hb); have n1_ := am_ (Kd.R_below (ro_ HO_5) hb); have n2_ := am_ (Kd.R_below (ro_ HO1016) hb); have n3_ := am_ (below_step bl_ hb); clear HO_3; clear HO_5; clear HO1016; clear HB; have HO_3 := n0_; have HO_5 := n1_; have HO1016 := n2_; have HB := n3_; clear n0_ n1_ n2_ n3_; (try clear hb); (try clear hb2); (try clear hk); (try clear hi)))
         go_meet
         case rel => exact ⟨_, ((t1014 != t1002)), rs_, H', ⟨by have := HJ4.out; first | omega | exact Nat.le_refl _⟩, ⟨by (with_reducible repeat (first | apply Kd.R_alloc | apply Kd.R_drewN | apply Kd.R_drew)); exact Kd.R_mono HO_5.out (fun _ hk => trivial)⟩, ⟨bl_⟩⟩
        ·replace c28 := Bool.eq_false_iff.mpr c28
         subst c28
         have H1 : (laws_FnExactReadLabels.j1 kj4 t1011 t1010 true) = some r := by rw [if_neg (show ¬ (false = true) by decide)] at H; exact H
         clear H
         have H := H1
         clear H1
         have H' := am_ H
         clear H
         obtain ⟨Ao32, co32, eo32⟩ := Kd.R_slice HO1016.out
         subst eo32
         obtain ⟨Ao33, co33, eo33⟩ := Kd.R_slice HO_3.out
         subst eo33
         go_wp2_with (first | ((with_reducible refine gate_callee (f := 23) rfl ?_); refine goesL_ (some 51) rfl rfl Try.func23 (by kernel_rfl) rfl #[.slice Ao32 t1013.length co32, .slice Ao33 t1001.length co33] rfl ag_ ?_; (with_reducible refine (laws_eqLabelS.calls kj4 _ _ t1013 _ _ t1001 false _ ?side1 ?side2 ?side3 ?side4 A27.out).mono ?_); (case side1 => exact cc_ (Kd.R_reads' HO1016.out).2.2); (case side2 => exact (Kd.R_reads' HO1016.out).2.1); (case side3 => exact cc_ (Kd.R_reads' HO_3.out).2.2); (case side4 => exact (Kd.R_reads' HO_3.out).2.1); rintro e w34 ⟨rfl, hb⟩; refine ⟨_, rfl, ?_⟩; have n0_ := am_ (Kd.R_below (ro_ HO_3) hb); have n1_ := am_ (Kd.R_below (ro_ HO_5) hb); have n2_ := am_ (Kd.R_below (ro_ HO1016) hb); have n3_ := am_ (below_step bl_ hb); clear HO_3; clear HO_5; clear HO1016; clear HB; have HO_3 := n0_; have HO_5 := n1_; have HO1016 := n2_; have HB := n3_; clear n0_ n1_ n2_ n3_; (try clear hb); (try clear hb2); (try clear hk); (try clear hi)))
         go_meet
         case rel => exact ⟨_, (true), rs_, H', ⟨by have := HJ4.out; first | omega | exact Nat.le_refl _⟩, ⟨by (with_reducible repeat (first | apply Kd.R_alloc | apply Kd.R_drewN | apply Kd.R_drew)); exact Kd.R_mono HO_5.out (fun _ hk => trivial)⟩, ⟨bl_⟩⟩
       case rest =>
        clear HC22
        try clear c1
        try clear c2
        try clear c2b0
        try clear c2b1
        try clear p2
        try clear c4
        try clear c9
        try clear c11
        try clear c16
        try clear c19
        try clear c19b0
        try clear c20
        try clear c20b0
        try clear c20b1
        try clear c23
        try clear c24
        try clear c25
        try clear c28
        try clear p2
        obtain ⟨kq, x57_21, rfl, HA, HJ21, HO_5, HB⟩ := hcut
        have hl5_21 := (Kd.R_reads' HO_5.out).1
        rw [hl5_21] at HO_5
        (try simp only [hl5_21])
        cases kq with
        | zero => exact absurd HA.out (by simp [laws_FnExactReadLabels.j1])
        | succ kj21 =>
         have H := HA.out
         clear HA
         simp only [laws_FnExactReadLabels.j1] at H
         by_cases c35 : x57_21 = true
         ·subst c35
          have H1 : (none) = some r := by rw [if_pos rfl] at H; exact H
          clear H
          have H := H1
          clear H1
          exact absurd H (by simp)
         ·replace c35 := Bool.eq_false_iff.mpr c35
          subst c35
          have H1 : ((laws_heldLabelS.f kj21 t1011 1).bind fun t1018 => (if t1018 < 0 then (none) else (if t1018 = t1010 then (some true) else (none)))) = some r := by rw [if_neg (show ¬ (false = true) by decide)] at H; exact H
          clear H
          have H := H1
          clear H1
          replace H := Option.bind_eq_some_iff.mp H
          obtain ⟨t1018, A360, H⟩ := H
          replace H : (if t1018 < 0 then (none) else (if t1018 = t1010 then (some true) else (none))) = some r := H
          have A36 := am_ A360
          clear A360
          by_cases c37 : t1018 < 0
          ·rw [if_pos c37] at H
           exact absurd H (by simp)
          ·rw [if_neg c37] at H
           have c37b0 : decide (t1018 < 0) = false := decide_eq_false c37
           clear c37
           by_cases c38 : t1018 = t1010
           ·rw [if_pos c38] at H
            have c38b0 : (t1018 == t1010) = true := beq_iff_eq.mpr c38
            have c38b1 : (t1018 != t1010) = false := bne_eq_false_iff_eq.mpr c38
            clear c38
            obtain rfl := Option.some.inj H
            go_wp2_with (first | ((with_reducible refine gate_callee (f := 25) rfl ?_); refine goesL_ (some 60) rfl rfl Try.func25 (by kernel_rfl) rfl #[.slice Ao23 t1011.length co23, .int .i64 1] rfl ag_ ?_; (with_reducible refine (laws_heldLabelS.calls kj21 _ _ t1011 1 t1018 _ ?side1 ?side2 A36.out).mono ?_); (case side1 => exact cc_ (Kd.R_reads' HO_5.out).2.2); (case side2 => exact (Kd.R_reads' HO_5.out).2.1); rintro e w39 ⟨rfl, hb⟩; refine ⟨_, rfl, ?_⟩; have n0_ := am_ (Kd.R_below (ro_ HO_5) hb); have n1_ := am_ (below_step bl_ hb); clear HO_5; clear HB; have HO_5 := n0_; have HB := n1_; clear n0_ n1_; (try clear hb); (try clear hb2); (try clear hk); (try clear hi)))
            go_ret
            exact ⟨rf_, bl_⟩
           ·rw [if_neg c38] at H
            exact absurd H (by simp)
      ·rw [if_neg c20] at H
       exact absurd H (by simp)

/-- THE ONE PURE STATEMENT of laws_FnExactReadLabels: yours. -/
def laws_FnExactReadLabels.Pure : Prop := ∀ (a0 : ByteArray), a0.size ≤ 140737488351232 → ∃ k, laws_FnExactReadLabels.f k a0 = some true
theorem laws_FnExactReadLabels.walk (P : laws_FnExactReadLabels.Pure) (a0 : ByteArray) (w : World) (w0 : a0.size ≤ 140737488351232) :
  Calls Try.prog 11 #[.string a0] w fun e w' => e = .returned (.bool true) ∧ Below w.heap.size w w' := by
 obtain ⟨k, h⟩ := P a0 w0
 refine (laws_FnExactReadLabels.calls k a0 true w h).mono ?_
 rintro e w' ⟨rfl, hd⟩
 exact ⟨rfl, hd⟩

end Go.Proofs.Ythgeohdpjedhnaa.Pr
