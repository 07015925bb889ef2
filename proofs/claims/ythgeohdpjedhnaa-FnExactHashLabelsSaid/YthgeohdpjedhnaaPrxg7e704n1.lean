/- Functions of the given program as plain Lean functions, and that the machine's calls come to them; written by a program of this session; no condition but those that each theorem states. -/
import Derived.Test.YthgeohdpjedhnaaShelf
import Derived.Test.YthgeohdpjedhnaaWRepsOne
import Derived.Test.YthgeohdpjedhnaaPrx0
import Derived.Test.YthgeohdpjedhnaaPrxg5570bn1
namespace Go.Proofs.Ythgeohdpjedhnaa.Pr
open Go.RowKit Go.Proofs.YthgeohdpjedhnaaW.PrintWords Go.Proofs.YthgeohdpjedhnaaW.PrintLast Go.Proofs.YthgeohdpjedhnaaW.PrintMore
attribute [local go_sem] max2_int min2_int max_two min_two max_three min_three max_four min_four   -- for this text's walks alone
set_option linter.unusedVariables false
set_option linter.unusedSimpArgs false

/-! ### impl_quote: function 75 -/
def impl_quote.l0 : Nat → ByteArray → List Int → Int → Int → Option (ByteArray)
 | 0, _, _, _, _ => none
 | k + 1, x0, x3, x7, x8 => if x8 < x7 then (if 0 ≤ x8 then (if x8 < (x0.size : Int) then (if (bt x0 x8) = 34 then (if x3.length < 140737488355328 then ((some (x3 ++ [92] : List Int)).bind fun y1004 => (if y1004.length < 140737488355328 then (impl_quote.l0 k x0 (y1004 ++ [bt x0 x8]) x7 (wrap64 (x8 + 1))) else (none))) else (none)) else (if (bt x0 x8) = 92 then (if x3.length < 140737488355328 then ((some (x3 ++ [92] : List Int)).bind fun y1010 => (if y1010.length < 140737488355328 then (impl_quote.l0 k x0 (y1010 ++ [bt x0 x8]) x7 (wrap64 (x8 + 1))) else (none))) else (none)) else (if x3.length < 140737488355328 then (impl_quote.l0 k x0 (x3 ++ [bt x0 x8]) x7 (wrap64 (x8 + 1))) else (none)))) else (none)) else (none)) else (if x3.length < 140737488355328 then (some (strOfNums (x3 ++ [34]))) else (none))
def impl_quote.f (k : Nat) (a0 : ByteArray) : Option (ByteArray) := impl_quote.l0 k a0 (([34] : List Int)) (a0.size : Int) 0
theorem impl_quote.mono_l : ∀ k, (∀ y0 y1 y2 y3, LeO (impl_quote.l0 k y0 y1 y2 y3) (impl_quote.l0 (k + 1) y0 y1 y2 y3))
 | 0 => fun _ _ _ _ r h => by simp [impl_quote.l0] at h
 | k + 1 => by
  have ih0 := impl_quote.mono_l k
  ·intro y0 y1 y2 y3
   unfold impl_quote.l0
   repeat' first
   | with_reducible first | exact ih0 _ _ _ _ | exact LeO.refl _ | exact LeO.none _ | refine LeO.ite ?_ ?_ | refine LeO.bind ?_ (fun _ => ?_)
   | exact ih0 _ _ _ _
   | exact LeO.none _
   | refine LeO.ite ?_ ?_
   | refine LeO.bind ?_ (fun _ => ?_)
theorem impl_quote.mono : ∀ a0 k, LeO (impl_quote.f k a0) (impl_quote.f (k + 1) a0) := by
 intro a0 k
 have ih0 := impl_quote.mono_l k
 unfold impl_quote.f
 repeat' first
   | with_reducible first | exact ih0 _ _ _ _ | exact LeO.refl _ | exact LeO.none _ | refine LeO.ite ?_ ?_ | refine LeO.bind ?_ (fun _ => ?_)
   | exact ih0 _ _ _ _
   | exact LeO.none _
   | refine LeO.ite ?_ ?_
   | refine LeO.bind ?_ (fun _ => ?_)
set_option maxHeartbeats 8000000 in
set_option maxRecDepth 100000 in
theorem impl_quote.calls (k : Nat) (a0 : ByteArray) (r : ByteArray) (w : World) (h : impl_quote.f k a0 = some r) :
  Calls Try.prog 75 #[.string a0] w fun e w' => e = .returned (.string r) ∧ Below w.heap.size w w' := by
 have HB := am_ (Below.refl w.heap.size w)
 have H : (impl_quote.l0 k a0 (([34] : List Int)) (a0.size : Int) 0) = some r := h
 clear h
 obtain ⟨y1001, hy1001⟩ : ∃ y_ : List Int, y_ = (([34] : List Int)) := ⟨_, rfl⟩
 replace H : (impl_quote.l0 k a0 y1001 (a0.size : Int) 0) = some r := by first | (rw [hy1001]; with_reducible exact H) | (have H2_ := (Option.bind_some _ _).symm.trans H; rw [hy1001]; with_reducible exact H2_) | (have H2_ := (Option.bind_some _ _).symm.trans H; with_reducible exact H2_) | with_reducible exact H | (rw [hy1001]; exact H) | exact H
 have Ny1001 := am_ hy1001
 clear hy1001
 have H' := am_ H
 clear H
 go_enter Try.func75, Try.ntmps75
 go_wp2_with (first | ((with_reducible refine gate_dst (N := 5) rfl ?_); refine Kd.R_lit (Kd.int .u8) _ 5 ?hg (N := 5) ?hd (xs := ([34] : List Int)) (inner := [.int .u8 34]) (ok := fun _ => True) (okp := fun _ => True) ?hr ?hp (fun _ hk => hk) trivial (Below.refl _ _) (Nat.le_refl _) (by simp) ?_; (case hd => rfl); (case hg => rfl); (case hr => first | (go_simp; done) | (go_simp; rfl)); (case hp => exact (Reps.one (show Kd.M (Kd.int .u8) _ _ _ 34 [.int .u8 34] from rfl) (Reps.none _ _))); intro v1002 w2 ho3 hb hg_ hnew_; clear hg_ hnew_; (first | rw [← Ny1001.out] at ho3 | (simp only [Int.reduceToNat] at ho3; rw [← Ny1001.out] at ho3)); have n0_ := am_ (Kd.R_lower ho3 (below_size bl_)); have n1_ := am_ (below_step bl_ hb); clear HB; have HO1003 := n0_; have HB := n1_; clear n0_ n1_; clear hb ho3))
 go_loopg [3, 8] k (fun kq v3 v8 w' => ∃ (x3_1 : List Int) (x8_1 : Int), v8 = .int .i64 x8_1 ∧ Aside0 (impl_quote.l0 kq a0 x3_1 (a0.size : Int) x8_1 = some r) ∧ Aside0 (kq ≤ k) ∧ Aside0 (Kd.R (Kd.int .u8) 5 w' w.heap.size (fun _ => True) v3 x3_1) ∧ Aside0 (Below w.heap.size w w'))
 case atStart => exact ⟨(y1001), (0), rs_, H', ⟨Nat.le_refl _⟩, ⟨ro_ HO1003⟩, ⟨bl_⟩⟩
 case round =>
  clear H'
  try clear p2
  obtain ⟨x3_1, x8_1, rfl, HA, HK1, HO_3, HB⟩ := hrel
  cases gk with
  | zero => exact absurd HA.out (by simp [impl_quote.l0])
  | succ k1 =>
   have H := HA.out
   clear HA
   simp only [impl_quote.l0] at H
   by_cases c4 : x8_1 < (a0.size : Int)
   ·rw [if_pos c4] at H
    have c4b0 : decide (x8_1 < (a0.size : Int)) = true := decide_eq_true c4
    clear c4
    by_cases c5 : 0 ≤ x8_1
    ·rw [if_pos c5] at H
     have c5b0 : decide (0 ≤ x8_1) = true := decide_eq_true c5
     clear c5
     by_cases c6 : x8_1 < (a0.size : Int)
     ·rw [if_pos c6] at H
      have c6b0 : decide (x8_1 < (a0.size : Int)) = true := decide_eq_true c6
      clear c6
      by_cases c8 : (bt a0 x8_1) = 34
      ·rw [if_pos c8] at H
       have c8b0 : ((bt a0 x8_1) == 34) = true := beq_iff_eq.mpr c8
       have c8b1 : ((bt a0 x8_1) != 34) = false := bne_eq_false_iff_eq.mpr c8
       clear c8
       by_cases c9 : x3_1.length < 140737488355328
       ·rw [if_pos c9] at H
        have LMc9 := am_ c9
        clear c9
        obtain ⟨y1004, hy1004⟩ : ∃ y_ : List Int, y_ = (x3_1 ++ [92]) := ⟨_, rfl⟩
        replace H : (if y1004.length < 140737488355328 then (impl_quote.l0 k1 a0 (y1004 ++ [bt a0 x8_1]) (a0.size : Int) (wrap64 (x8_1 + 1))) else (none)) = some r := by first | (rw [hy1004]; with_reducible exact H) | (have H2_ := (Option.bind_some _ _).symm.trans H; rw [hy1004]; with_reducible exact H2_) | (have H2_ := (Option.bind_some _ _).symm.trans H; with_reducible exact H2_) | with_reducible exact H | (rw [hy1004]; exact H) | exact H
        have Ny1004 := am_ hy1004
        clear hy1004
        by_cases c11 : y1004.length < 140737488355328
        ·rw [if_pos c11] at H
         have LMc11 := am_ c11
         clear c11
         obtain ⟨y1007, hy1007⟩ : ∃ y_ : List Int, y_ = (y1004 ++ [bt a0 x8_1]) := ⟨_, rfl⟩
         replace H : (impl_quote.l0 k1 a0 y1007 (a0.size : Int) (wrap64 (x8_1 + 1))) = some r := by first | (rw [hy1007]; with_reducible exact H) | (have H2_ := (Option.bind_some _ _).symm.trans H; rw [hy1007]; with_reducible exact H2_) | (have H2_ := (Option.bind_some _ _).symm.trans H; with_reducible exact H2_) | with_reducible exact H | (rw [hy1007]; exact H) | exact H
         have Ny1007 := am_ hy1007
         clear hy1007
         have H' := am_ H
         clear H
         have p7 : 0 ≤ (x8_1 : Int) := od_
         have q7 : x8_1 < (a0.size : Int) := od_
         have hx7 := bt_at a0 x8_1
         replace p7 := eq_true p7
         replace q7 := eq_true q7
         go_wp2_with (first | ((with_reducible refine gate_builtin (b := .append) (xs := #[.tmp 21, .tmp 22]) rfl ?_); at_builtin; refine Kd.R_append (Kd.int .u8) (w0 := w) w.heap.size rfl (.tmp 21) (.tmp 22) 93 5 (.int .u8 0) 1 rfl Try.underlying93 info5 rfl (by decide) (by omega) u3 x3_1 92 [.int .u8 92] (fun _ => True) (fun _ => False) rfl rfl ?aP (fun _ hk => hk.elim) ?aF ?aO ?aB ?aS ?aL ?_; (case aP => exact rfl); (case aB => exact bl_); (case aF => exact (fun _ _ => trivial)); (case aO => exact (ro_ HO_3)); (case aS => exact (below_size bl_)); (case aL => have := LMc9.out; omega); intro v1005 w12 ho hb hg hat; rw [← Ny1004.out] at ho; have n0_ := am_ (hb); have n1_ := am_ (ho); clear HB; clear HO_3; have HB := n0_; have HO1006 := n1_; clear n0_ n1_; clear ho hb hg hat; have p10 : 0 ≤ (x8_1 : Int) := od_; have q10 : x8_1 < (a0.size : Int) := od_; have hx10 := bt_at a0 x8_1; replace p10 := eq_true p10; replace q10 := eq_true q10) | ((with_reducible refine gate_builtin (b := .append) (xs := #[.tmp 24, .tmp 28]) rfl ?_); at_builtin; refine Kd.R_append (Kd.int .u8) (w0 := w) w.heap.size rfl (.tmp 24) (.tmp 28) 93 5 (.int .u8 0) 1 rfl Try.underlying93 info5 rfl (by decide) (by omega) v1005 y1004 (bt a0 x8_1) [.int .u8 (bt a0 x8_1)] (fun _ => True) (fun _ => False) rfl rfl ?aP (fun _ hk => hk.elim) ?aF ?aO ?aB ?aS ?aL ?_; (case aP => exact rfl); (case aB => exact bl_); (case aF => exact (fun _ _ => trivial)); (case aO => exact (ro_ HO1006)); (case aS => exact (below_size bl_)); (case aL => have := LMc11.out; omega); intro v1008 w13 ho hb hg hat; rw [← Ny1007.out] at ho; have n0_ := am_ (hb); have n1_ := am_ (ho); clear HB; clear HO1006; have HB := n0_; have HO1009 := n1_; clear n0_ n1_; clear ho hb hg hat))
         go_roundg k1
         case measure => have := HK1.out; omega
         case rel => exact ⟨(y1007), (wrap64 (x8_1 + 1)), rs_, H', ⟨by have := HK1.out; omega⟩, ⟨ro_ HO1009⟩, ⟨bl_⟩⟩
        ·rw [if_neg c11] at H
         exact absurd H (by simp)
       ·rw [if_neg c9] at H
        exact absurd H (by simp)
      ·rw [if_neg c8] at H
       have c8b0 : ((bt a0 x8_1) == 34) = false := beq_eq_false_iff_ne.mpr c8
       have c8b1 : ((bt a0 x8_1) != 34) = true := bne_iff_ne.mpr c8
       by_cases c15 : (bt a0 x8_1) = 92
       ·rw [if_pos c15] at H
        have c15b0 : ((bt a0 x8_1) == 92) = true := beq_iff_eq.mpr c15
        have c15b1 : ((bt a0 x8_1) != 92) = false := bne_eq_false_iff_eq.mpr c15
        clear c15
        by_cases c16 : x3_1.length < 140737488355328
        ·rw [if_pos c16] at H
         have LMc16 := am_ c16
         clear c16
         obtain ⟨y1010, hy1010⟩ : ∃ y_ : List Int, y_ = (x3_1 ++ [92]) := ⟨_, rfl⟩
         replace H : (if y1010.length < 140737488355328 then (impl_quote.l0 k1 a0 (y1010 ++ [bt a0 x8_1]) (a0.size : Int) (wrap64 (x8_1 + 1))) else (none)) = some r := by first | (rw [hy1010]; with_reducible exact H) | (have H2_ := (Option.bind_some _ _).symm.trans H; rw [hy1010]; with_reducible exact H2_) | (have H2_ := (Option.bind_some _ _).symm.trans H; with_reducible exact H2_) | with_reducible exact H | (rw [hy1010]; exact H) | exact H
         have Ny1010 := am_ hy1010
         clear hy1010
         by_cases c18 : y1010.length < 140737488355328
         ·rw [if_pos c18] at H
          have LMc18 := am_ c18
          clear c18
          obtain ⟨y1013, hy1013⟩ : ∃ y_ : List Int, y_ = (y1010 ++ [bt a0 x8_1]) := ⟨_, rfl⟩
          replace H : (impl_quote.l0 k1 a0 y1013 (a0.size : Int) (wrap64 (x8_1 + 1))) = some r := by first | (rw [hy1013]; with_reducible exact H) | (have H2_ := (Option.bind_some _ _).symm.trans H; rw [hy1013]; with_reducible exact H2_) | (have H2_ := (Option.bind_some _ _).symm.trans H; with_reducible exact H2_) | with_reducible exact H | (rw [hy1013]; exact H) | exact H
          have Ny1013 := am_ hy1013
          clear hy1013
          have H' := am_ H
          clear H
          have p7 : 0 ≤ (x8_1 : Int) := od_
          have q7 : x8_1 < (a0.size : Int) := od_
          have hx7 := bt_at a0 x8_1
          replace p7 := eq_true p7
          replace q7 := eq_true q7
          have p14 : 0 ≤ (x8_1 : Int) := od_
          have q14 : x8_1 < (a0.size : Int) := od_
          have hx14 := bt_at a0 x8_1
          replace p14 := eq_true p14
          replace q14 := eq_true q14
          go_wp2_with (first | ((with_reducible refine gate_builtin (b := .append) (xs := #[.tmp 21, .tmp 22]) rfl ?_); at_builtin; refine Kd.R_append (Kd.int .u8) (w0 := w) w.heap.size rfl (.tmp 21) (.tmp 22) 93 5 (.int .u8 0) 1 rfl Try.underlying93 info5 rfl (by decide) (by omega) u3 x3_1 92 [.int .u8 92] (fun _ => True) (fun _ => False) rfl rfl ?aP (fun _ hk => hk.elim) ?aF ?aO ?aB ?aS ?aL ?_; (case aP => exact rfl); (case aB => exact bl_); (case aF => exact (fun _ _ => trivial)); (case aO => exact (ro_ HO_3)); (case aS => exact (below_size bl_)); (case aL => have := LMc16.out; omega); intro v1011 w19 ho hb hg hat; rw [← Ny1010.out] at ho; have n0_ := am_ (hb); have n1_ := am_ (ho); clear HB; clear HO_3; have HB := n0_; have HO1012 := n1_; clear n0_ n1_; clear ho hb hg hat; have p17 : 0 ≤ (x8_1 : Int) := od_; have q17 : x8_1 < (a0.size : Int) := od_; have hx17 := bt_at a0 x8_1; replace p17 := eq_true p17; replace q17 := eq_true q17) | ((with_reducible refine gate_builtin (b := .append) (xs := #[.tmp 24, .tmp 28]) rfl ?_); at_builtin; refine Kd.R_append (Kd.int .u8) (w0 := w) w.heap.size rfl (.tmp 24) (.tmp 28) 93 5 (.int .u8 0) 1 rfl Try.underlying93 info5 rfl (by decide) (by omega) v1011 y1010 (bt a0 x8_1) [.int .u8 (bt a0 x8_1)] (fun _ => True) (fun _ => False) rfl rfl ?aP (fun _ hk => hk.elim) ?aF ?aO ?aB ?aS ?aL ?_; (case aP => exact rfl); (case aB => exact bl_); (case aF => exact (fun _ _ => trivial)); (case aO => exact (ro_ HO1012)); (case aS => exact (below_size bl_)); (case aL => have := LMc18.out; omega); intro v1014 w20 ho hb hg hat; rw [← Ny1013.out] at ho; have n0_ := am_ (hb); have n1_ := am_ (ho); clear HB; clear HO1012; have HB := n0_; have HO1015 := n1_; clear n0_ n1_; clear ho hb hg hat))
          go_roundg k1
          case measure => have := HK1.out; omega
          case rel => exact ⟨(y1013), (wrap64 (x8_1 + 1)), rs_, H', ⟨by have := HK1.out; omega⟩, ⟨ro_ HO1015⟩, ⟨bl_⟩⟩
         ·rw [if_neg c18] at H
          exact absurd H (by simp)
        ·rw [if_neg c16] at H
         exact absurd H (by simp)
       ·rw [if_neg c15] at H
        have c15b0 : ((bt a0 x8_1) == 92) = false := beq_eq_false_iff_ne.mpr c15
        have c15b1 : ((bt a0 x8_1) != 92) = true := bne_iff_ne.mpr c15
        by_cases c22 : x3_1.length < 140737488355328
        ·rw [if_pos c22] at H
         have LMc22 := am_ c22
         clear c22
         obtain ⟨y1016, hy1016⟩ : ∃ y_ : List Int, y_ = (x3_1 ++ [bt a0 x8_1]) := ⟨_, rfl⟩
         replace H : (impl_quote.l0 k1 a0 y1016 (a0.size : Int) (wrap64 (x8_1 + 1))) = some r := by first | (rw [hy1016]; with_reducible exact H) | (have H2_ := (Option.bind_some _ _).symm.trans H; rw [hy1016]; with_reducible exact H2_) | (have H2_ := (Option.bind_some _ _).symm.trans H; with_reducible exact H2_) | with_reducible exact H | (rw [hy1016]; exact H) | exact H
         have Ny1016 := am_ hy1016
         clear hy1016
         have H' := am_ H
         clear H
         have p7 : 0 ≤ (x8_1 : Int) := od_
         have q7 : x8_1 < (a0.size : Int) := od_
         have hx7 := bt_at a0 x8_1
         replace p7 := eq_true p7
         replace q7 := eq_true q7
         have p14 : 0 ≤ (x8_1 : Int) := od_
         have q14 : x8_1 < (a0.size : Int) := od_
         have hx14 := bt_at a0 x8_1
         replace p14 := eq_true p14
         replace q14 := eq_true q14
         have p21 : 0 ≤ (x8_1 : Int) := od_
         have q21 : x8_1 < (a0.size : Int) := od_
         have hx21 := bt_at a0 x8_1
         replace p21 := eq_true p21
         replace q21 := eq_true q21
         go_wp2_with (first | ((with_reducible refine gate_builtin (b := .append) (xs := #[.tmp 24, .tmp 28]) rfl ?_); at_builtin; refine Kd.R_append (Kd.int .u8) (w0 := w) w.heap.size rfl (.tmp 24) (.tmp 28) 93 5 (.int .u8 0) 1 rfl Try.underlying93 info5 rfl (by decide) (by omega) u3 x3_1 (bt a0 x8_1) [.int .u8 (bt a0 x8_1)] (fun _ => True) (fun _ => False) rfl rfl ?aP (fun _ hk => hk.elim) ?aF ?aO ?aB ?aS ?aL ?_; (case aP => exact rfl); (case aB => exact bl_); (case aF => exact (fun _ _ => trivial)); (case aO => exact (ro_ HO_3)); (case aS => exact (below_size bl_)); (case aL => have := LMc22.out; omega); intro v1017 w23 ho hb hg hat; rw [← Ny1016.out] at ho; have n0_ := am_ (hb); have n1_ := am_ (ho); clear HB; clear HO_3; have HB := n0_; have HO1018 := n1_; clear n0_ n1_; clear ho hb hg hat))
         go_roundg k1
         case measure => have := HK1.out; omega
         case rel => exact ⟨(y1016), (wrap64 (x8_1 + 1)), rs_, H', ⟨by have := HK1.out; omega⟩, ⟨ro_ HO1018⟩, ⟨bl_⟩⟩
        ·rw [if_neg c22] at H
         exact absurd H (by simp)
     ·rw [if_neg c6] at H
      exact absurd H (by simp)
    ·rw [if_neg c5] at H
     exact absurd H (by simp)
   ·rw [if_neg c4] at H
    have c4b0 : decide (x8_1 < (a0.size : Int)) = false := decide_eq_false c4
    clear c4
    by_cases c24 : x3_1.length < 140737488355328
    ·rw [if_pos c24] at H
     have LMc24 := am_ c24
     clear c24
     obtain ⟨y1019, hy1019⟩ : ∃ y_ : List Int, y_ = (x3_1 ++ [34]) := ⟨_, rfl⟩
     replace H : (some (strOfNums y1019)) = some r := by first | (rw [hy1019]; with_reducible exact H) | (have H2_ := (Option.bind_some _ _).symm.trans H; rw [hy1019]; with_reducible exact H2_) | (have H2_ := (Option.bind_some _ _).symm.trans H; with_reducible exact H2_) | with_reducible exact H | (rw [hy1019]; exact H) | exact H
     have Ny1019 := am_ hy1019
     clear hy1019
     obtain rfl := Option.some.inj H
     go_wp2_with (first | ((with_reducible refine gate_builtin (b := .append) (xs := #[.tmp 31, .tmp 32]) rfl ?_); at_builtin; refine Kd.R_append (Kd.int .u8) (w0 := w) w.heap.size rfl (.tmp 31) (.tmp 32) 93 5 (.int .u8 0) 1 rfl Try.underlying93 info5 rfl (by decide) (by omega) u3 x3_1 34 [.int .u8 34] (fun _ => True) (fun _ => False) rfl rfl ?aP (fun _ hk => hk.elim) ?aF ?aO ?aB ?aS ?aL ?_; (case aP => exact rfl); (case aB => exact bl_); (case aF => exact (fun _ _ => trivial)); (case aO => exact (ro_ HO_3)); (case aS => exact (below_size bl_)); (case aL => have := LMc24.out; omega); intro v1020 w25 ho hb hg hat; rw [← Ny1019.out] at ho; have n0_ := am_ (hb); have n1_ := am_ (ho); clear HB; clear HO_3; have HB := n0_; have HO1021 := n1_; clear n0_ n1_; clear ho hb hg hat; have hcv26 := own_string (P := Try.prog) Try.underlying93 Try.underlying5 Try.underlying9 (Kd.own_of_R HO1021.out)))
     go_ret
     exact ⟨rf_, bl_⟩
    ·rw [if_neg c24] at H
     exact absurd H (by simp)

/-! ### strings_Join: function 76 -/
def strings_Join.f (l0 : List (ByteArray)) (a1 : ByteArray) : Option (ByteArray) := if l0.length ≤ 140737488355328 ∧ (Lib.join (l0.map (·.data.toList)) a1.data.toList).length ≤ 140737488355328 then some ⟨(Lib.join (l0.map (·.data.toList)) a1.data.toList).toArray⟩ else none
theorem strings_Join.calls (A0 : Option Addr) (c0 : Nat) (l0 : List (ByteArray)) (a1 : ByteArray) (r : ByteArray) (w : World) (hr0 : Kd.C (Kd.string) w A0 l0.length l0) (hc0 : l0.length ≤ c0) (h : strings_Join.f l0 a1 = some r) :
  Calls Try.prog 76 #[.slice A0 l0.length c0, .string a1] w fun e w' => e = .returned (.string r) ∧ Below w.heap.size w w' := by
 unfold strings_Join.f at h
 split at h
 ·rename_i hl
  obtain rfl := Option.some.inj h
  rcases Nat.eq_zero_or_pos l0.length with h0 | h0
  ·obtain rfl := List.eq_nil_of_length_eq_zero h0
   exact (Try.strings_Join_none A0 c0 a1 w).mono (fun e w' hp => ⟨hp.1, by rw [hp.2]; exact Below.refl _ _⟩)
  ·obtain ⟨⟨b, o, s⟩, rfl, h1⟩ := Kd.at_string hr0 0 (by omega) (by omega)
   have hs : s = none := by
    have h2 : w.cell? ⟨b, o, s⟩ = some (.string (rdOf ByteArray.empty l0 0)) := h1
    unfold World.cell? at h2
    split at h2
    ·split at h2
     ·cases h2
     ·rename_i h3; simpa using h3
    ·cases h2
   subst hs
   have hcell : ∀ (j : Nat) x, l0[j]? = some x → w.cell? ⟨b, o + j, none⟩ = some (.string x) := by
    intro j x hx
    obtain ⟨hj, hx⟩ := List.getElem?_eq_some_iff.1 hx
    obtain ⟨ad', e', h4⟩ := Kd.at_string hr0 (j : Int) (by omega) (by omega)
    cases e'
    rw [show rdOf ByteArray.empty l0 (j : Int) = x from by unfold rdOf; simp [hj, hx], Int.toNat_natCast] at h4
    rw [← h4]
    unfold Addr.add
    by_cases hj0 : j = 0
    ·subst hj0; rfl
    ·rw [if_neg hj0]
   exact (Try.strings_Join b o c0 l0 a1 w hcell (World.block_lt_of_cell? w ⟨b, o + 0, none⟩ (hcell 0 _ (List.getElem?_eq_getElem h0))) hl.1 hc0 hl.2).mono (fun e w' hp => hp)
 ·cases h

/-! ### impl_LabelsText: function 27 -/
def impl_LabelsText.l0 : Nat → List ByteArray → List (S86) → Int → Int → Option (ByteArray)
 | 0, _, _, _, _ => none
 | k + 1, x3, x9, x10, x11 => if x11 < x10 then (if 0 ≤ x11 then (if x11 < (x9.length : Int) then (if ((rd_T86 x9 x11).f0).size + 1 ≤ 9223372036854775807 then ((impl_quote.f k ((rd_T86 x9 x11).f1)).bind fun t1004 => (if (((rd_T86 x9 x11).f0) ++ (⟨#[61]⟩ : ByteArray)).size + t1004.size ≤ 9223372036854775807 then (if x3.length < 8796093022208 then (impl_LabelsText.l0 k (x3 ++ [(((rd_T86 x9 x11).f0) ++ (⟨#[61]⟩ : ByteArray)) ++ t1004]) x9 x10 (wrap64 (x11 + 1))) else (none)) else (none))) else (none)) else (none)) else (none)) else ((strings_Join.f x3 (⟨#[44]⟩ : ByteArray)).bind fun t1008 => (if 1 + t1008.size ≤ 9223372036854775807 then (if ((⟨#[123]⟩ : ByteArray) ++ t1008).size + 1 ≤ 9223372036854775807 then (some (((⟨#[123]⟩ : ByteArray) ++ t1008) ++ (⟨#[125]⟩ : ByteArray))) else (none)) else (none)))
def impl_LabelsText.f (k : Nat) (l0 : List (S86)) : Option (ByteArray) := (impl_GoodLabels.f k l0).bind fun t1001 => (if t1001 = true then (impl_LabelsText.l0 k ([] : List ByteArray) l0 (l0.length : Int) 0) else (some (⟨#[]⟩ : ByteArray)))
theorem impl_LabelsText.mono_l : ∀ k, (∀ y0 y1 y2 y3, LeO (impl_LabelsText.l0 k y0 y1 y2 y3) (impl_LabelsText.l0 (k + 1) y0 y1 y2 y3))
 | 0 => fun _ _ _ _ r h => by simp [impl_LabelsText.l0] at h
 | k + 1 => by
  have ih0 := impl_LabelsText.mono_l k
  ·intro y0 y1 y2 y3
   unfold impl_LabelsText.l0
   repeat' first
   | with_reducible first | exact ih0 _ _ _ _ | exact impl_GoodLabels.mono _ _ | exact impl_quote.mono _ _ | exact LeO.refl _ | exact LeO.none _ | refine LeO.ite ?_ ?_ | refine LeO.bind ?_ (fun _ => ?_)
   | exact ih0 _ _ _ _
   | exact impl_GoodLabels.mono _ _
   | exact impl_quote.mono _ _
   | exact LeO.none _
   | refine LeO.ite ?_ ?_
   | refine LeO.bind ?_ (fun _ => ?_)
theorem impl_LabelsText.mono : ∀ a0 k, LeO (impl_LabelsText.f k a0) (impl_LabelsText.f (k + 1) a0) := by
 intro a0 k
 have ih0 := impl_LabelsText.mono_l k
 unfold impl_LabelsText.f
 repeat' first
   | with_reducible first | exact ih0 _ _ _ _ | exact impl_GoodLabels.mono _ _ | exact impl_quote.mono _ _ | exact LeO.refl _ | exact LeO.none _ | refine LeO.ite ?_ ?_ | refine LeO.bind ?_ (fun _ => ?_)
   | exact ih0 _ _ _ _
   | exact impl_GoodLabels.mono _ _
   | exact impl_quote.mono _ _
   | exact LeO.none _
   | refine LeO.ite ?_ ?_
   | refine LeO.bind ?_ (fun _ => ?_)
def impl_LabelsText.T7 : Bool × List (List Nat × List Nat) := (true, [([], []), ([], []), ([1], [1]), ([2], [2]), ([], []), ([4], [4]), ([5], [5]), ([3, 6], [3, 6]), ([7], [7]), ([0, 8, 6], [0, 8]), ([9, 9, 0, 1, 2, 3, 4, 5, 6, 7, 8, 9], [0, 9])])
def impl_LabelsText.B7 : List Nat := [0, 0, 2, 6, 0, 16, 48, 126, 254, 511, 1023]
theorem impl_LabelsText.tab7 : rtab .any (opsOf Try.f27 7) = impl_LabelsText.T7 := by kernel_rfl
theorem impl_LabelsText.bits7 : waitsOk impl_LabelsText.T7.2 impl_LabelsText.B7 = true := by kernel_rfl
set_option maxHeartbeats 8000000 in
set_option maxRecDepth 100000 in
theorem impl_LabelsText.calls (k : Nat) (A0 : Option Addr) (c0 : Nat) (l0 : List (S86)) (r : ByteArray) (w : World) (hr0 : Kd.C k86 w A0 l0.length l0) (hc0 : l0.length ≤ c0) (h : impl_LabelsText.f k l0 = some r) :
  Calls Try.prog 27 #[.slice A0 l0.length c0] w fun e w' => e = .returned (.string r) ∧ Below w.heap.size w w' := by
 have hu86 := Try.underlying86
 have HR0 := am_ hr0
 have HC0 := am_ hc0
 clear hr0 hc0
 have HB := am_ (Below.refl w.heap.size w)
 have H : ((impl_GoodLabels.f k l0).bind fun t1001 => (if t1001 = true then (impl_LabelsText.l0 k ([] : List ByteArray) l0 (l0.length : Int) 0) else (some (⟨#[]⟩ : ByteArray)))) = some r := h
 clear h
 replace H := Option.bind_eq_some_iff.mp H
 obtain ⟨t1001, A20, H⟩ := H
 replace H : (if t1001 = true then (impl_LabelsText.l0 k ([] : List ByteArray) l0 (l0.length : Int) 0) else (some (⟨#[]⟩ : ByteArray))) = some r := H
 have A2 := am_ A20
 clear A20
 by_cases c3 : t1001 = true
 ·subst c3
  have H1 : (impl_LabelsText.l0 k ([] : List ByteArray) l0 (l0.length : Int) 0) = some r := by rw [if_pos rfl] at H; exact H
  clear H
  have H := H1
  clear H1
  have H' := am_ H
  clear H
  go_enter Try.func27, Try.ntmps27
  go_wp2_with (first | ((with_reducible refine gate_callee (f := 69) rfl ?_); refine goesL_ (some 7) rfl rfl Try.func69 (by kernel_rfl) rfl #[.slice A0 l0.length c0] rfl ag_ ?_; (with_reducible refine (impl_GoodLabels.calls k _ _ l0 true _ ?side1 ?side2 A2.out).mono ?_); (case side1 => repeat (first | exact HR0.out | (with_reducible refine Kd.C_alloc ?_ _) | (with_reducible refine Kd.C_drewN ?_ _) | (with_reducible refine Kd.C_drew ?_))); (case side2 => exact HC0.out); rintro e w4 ⟨rfl, hb⟩; refine ⟨_, rfl, ?_⟩; have n0_ := am_ (below_step bl_ hb); clear HB; have HB := n0_; clear n0_; (try clear hb); (try clear hb2); (try clear hk); (try clear hi)))
  go_loopg [3, 11] k (fun kq v3 v11 w' => ∃ (x3_1 : List ByteArray) (x11_1 : Int), v11 = .int .i64 x11_1 ∧ Aside0 (impl_LabelsText.l0 kq x3_1 l0 (l0.length : Int) x11_1 = some r) ∧ Aside0 (kq ≤ k) ∧ Aside0 (Kd.R Kd.string 9 w' w.heap.size (fun _ => True) v3 x3_1) ∧ Aside0 (Below w.heap.size w w'))
  case atStart => exact ⟨(([] : List ByteArray)), (0), rs_, H', ⟨Nat.le_refl _⟩, ⟨ni_⟩, ⟨bl_⟩⟩
  case round =>
   clear H'
   try clear c2
   try clear p2
   try clear c3
   obtain ⟨x3_1, x11_1, rfl, HA, HK1, HO_3, HB⟩ := hrel
   cases gk with
   | zero => exact absurd HA.out (by simp [impl_LabelsText.l0])
   | succ k1 =>
    have H := HA.out
    clear HA
    simp only [impl_LabelsText.l0] at H
    by_cases c5 : x11_1 < (l0.length : Int)
    ·rw [if_pos c5] at H
     have c5b0 : decide (x11_1 < (l0.length : Int)) = true := decide_eq_true c5
     clear c5
     by_cases c6 : 0 ≤ x11_1
     ·rw [if_pos c6] at H
      have c6b0 : decide (0 ≤ x11_1) = true := decide_eq_true c6
      clear c6
      by_cases c7 : x11_1 < (l0.length : Int)
      ·rw [if_pos c7] at H
       have c7b0 : decide (x11_1 < (l0.length : Int)) = true := decide_eq_true c7
       clear c7
       by_cases c8 : ((rd_T86 l0 x11_1).f0).size + 1 ≤ 9223372036854775807
       ·rw [if_pos c8] at H
        have c8b0 := eq_true c8
        have c8b1 : decide (((rd_T86 l0 x11_1).f0).size + 1 ≤ 9223372036854775807) = true := decide_eq_true c8
        try have c8b2 : (9223372036854775807 < ((rd_T86 l0 x11_1).f0).size + 1) = False := eq_false (Nat.not_lt.2 c8)
        replace H := Option.bind_eq_some_iff.mp H
        obtain ⟨t1004, A90, H⟩ := H
        replace H : (if (((rd_T86 l0 x11_1).f0) ++ (⟨#[61]⟩ : ByteArray)).size + t1004.size ≤ 9223372036854775807 then (if x3_1.length < 8796093022208 then (impl_LabelsText.l0 k1 (x3_1 ++ [(((rd_T86 l0 x11_1).f0) ++ (⟨#[61]⟩ : ByteArray)) ++ t1004]) l0 (l0.length : Int) (wrap64 (x11_1 + 1))) else (none)) else (none)) = some r := H
        have A9 := am_ A90
        clear A90
        by_cases c10 : (((rd_T86 l0 x11_1).f0) ++ (⟨#[61]⟩ : ByteArray)).size + t1004.size ≤ 9223372036854775807
        ·rw [if_pos c10] at H
         have c10b0 := eq_true c10
         have c10b1 : decide ((((rd_T86 l0 x11_1).f0) ++ (⟨#[61]⟩ : ByteArray)).size + t1004.size ≤ 9223372036854775807) = true := decide_eq_true c10
         try have c10b2 : (9223372036854775807 < (((rd_T86 l0 x11_1).f0) ++ (⟨#[61]⟩ : ByteArray)).size + t1004.size) = False := eq_false (Nat.not_lt.2 c10)
         try (have c10b3 := c10b2; simp only [ByteArray.size_append, sz_mk_, List.size_toArray, List.length_cons, List.length_nil, Nat.reduceAdd] at c10b3)
         by_cases c11 : x3_1.length < 8796093022208
         ·rw [if_pos c11] at H
          have LMc11 := am_ c11
          clear c11
          obtain ⟨y1005, hy1005⟩ : ∃ y_ : List ByteArray, y_ = (x3_1 ++ [(((rd_T86 l0 x11_1).f0) ++ (⟨#[61]⟩ : ByteArray)) ++ t1004]) := ⟨_, rfl⟩
          replace H : (impl_LabelsText.l0 k1 y1005 l0 (l0.length : Int) (wrap64 (x11_1 + 1))) = some r := by first | (rw [hy1005]; with_reducible exact H) | (have H2_ := (Option.bind_some _ _).symm.trans H; rw [hy1005]; with_reducible exact H2_) | (have H2_ := (Option.bind_some _ _).symm.trans H; with_reducible exact H2_) | with_reducible exact H | (rw [hy1005]; exact H) | exact H
          have Ny1005 := am_ hy1005
          clear hy1005
          have H' := am_ H
          clear H
          have p1002 : 0 ≤ (x11_1 : Int) := od_
          have q1002 : x11_1 < (l0.length : Int) := od_
          obtain ⟨ad1002, e1002, hx1002_0, hx1002_1⟩ := at_T86 HR0.out x11_1 p1002 q1002
          cases e1002
          replace hx1002_0 := kp_ HB hx1002_0
          replace hx1002_1 := kp_ HB hx1002_1
          replace p1002 := eq_true p1002
          replace q1002 := eq_true q1002
          try go_wp2_with (first | ((with_reducible refine gate_dst (N := 5) rfl ?_); refine box_event ?hg (N := 5) ?hd (cs := #[.string (⟨#[]⟩ : ByteArray), .string (⟨#[]⟩ : ByteArray)]) (t := 86) ?hr ?_; (case hd => rfl); (case hg => rfl); (case hr => first | (go_simp; done) | (go_simp; rfl)); intro gb1003 hg w12 hbox hb; have n0_ := am_ (Kd.R_below (ro_ HO_3) hb); have n1_ := am_ (below_step bl_ hb); have n2_ := am_ (hbox); have n3_ := am_ (gs_ hg : w.heap.size ≤ gb1003); have n4_ := n3_; clear HO_3; clear HB; have HO_3 := n0_; have HB := n1_; have BK1003 := n2_; have GW1003 := n3_; have GE1003 := n4_; clear n0_ n1_ n2_ n3_ n4_; clear hb hbox hg; have hcz13_0 := bc2_0 BK1003; have hcz13_1 := bc2_1 BK1003; have hfz13_0 := bf_ BK1003 0; have hfz13_1 := bf_ BK1003 1))
          have n0_ : Aside0 (Kd.R Kd.string 9 ((w12.setCell ⟨gb1003, 0, none⟩ (.string ((rd_T86 l0 x11_1).f0))).setCell ⟨gb1003, 1, none⟩ (.string ((rd_T86 l0 x11_1).f1))) w.heap.size (fun _ => True) u3 x3_1) := ⟨by (with_reducible repeat (first | apply Kd.R_alloc | apply Kd.R_drewN | apply Kd.R_drew)); exact Kd.R_mono (Kd.R_far (p := ⟨gb1003, 1, none⟩) (Kd.R_far (p := ⟨gb1003, 0, none⟩) (Kd.R_types HO_3.out BK1003.out (by decide)) (fun _ hk => hk.2) (.string ((rd_T86 l0 x11_1).f0))) (fun _ hk => hk.2) (.string ((rd_T86 l0 x11_1).f1))) (fun _ hk => trivial)⟩
          have n1_ : Aside0 (((w12.setCell ⟨gb1003, 0, none⟩ (.string ((rd_T86 l0 x11_1).f0))).setCell ⟨gb1003, 1, none⟩ (.string ((rd_T86 l0 x11_1).f1))).heap[gb1003]? = some (.cells #[.string ((rd_T86 l0 x11_1).f0), .string ((rd_T86 l0 x11_1).f1)] 86 (0, 0))) := ⟨by (with_reducible repeat (first | refine blk_drewN ?_ _ | refine blk_drew ?_ | refine blk_alloc ?_ _)); refine blk_put (cs := #[.string ((rd_T86 l0 x11_1).f0), .string (⟨#[]⟩ : ByteArray)]) ?_ 1 _ rfl; (with_reducible repeat (first | refine blk_drewN ?_ _ | refine blk_drew ?_ | refine blk_alloc ?_ _)); refine blk_put (cs := #[.string (⟨#[]⟩ : ByteArray), .string (⟨#[]⟩ : ByteArray)]) ?_ 0 _ rfl; (with_reducible repeat (first | refine blk_drewN ?_ _ | refine blk_drew ?_ | refine blk_alloc ?_ _)); exact BK1003.out⟩
          have n2_ : Aside0 (Below w.heap.size w ((w12.setCell ⟨gb1003, 0, none⟩ (.string ((rd_T86 l0 x11_1).f0))).setCell ⟨gb1003, 1, none⟩ (.string ((rd_T86 l0 x11_1).f1)))) := ⟨bg_⟩
          (try clear HO_3)
          (try clear BK1003)
          (try clear HB)
          generalize ((w12.setCell ⟨gb1003, 0, none⟩ (.string ((rd_T86 l0 x11_1).f0))).setCell ⟨gb1003, 1, none⟩ (.string ((rd_T86 l0 x11_1).f1))) = w14 at n0_ n1_ n2_ ⊢
          have HO_3 := n0_
          have BK1003 := n1_
          have HB := n2_
          clear n0_ n1_ n2_
          have n0_ := am_ (Kd.R_drew HO_3.out)
          have n1_ := am_ (blk_drew BK1003.out)
          have n2_ := am_ (below_drew1 HB.out)
          clear HO_3
          clear BK1003
          clear HB
          have HO_3 := n0_
          have BK1003 := n1_
          have HB := n2_
          clear n0_ n1_ n2_
          refine start_ (n := 11) (S := fun w' => w'.cell? ⟨gb1003, 0, none⟩ = some (.string ((rd_T86 l0 x11_1).f0)) ∧ w'.cell? ⟨gb1003, 1, none⟩ = some (.string ((rd_T86 l0 x11_1).f1))) (ds := []) (bz 11 0) (by kernel_rfl) rfl rfl ⟨(blk_cell BK1003.out 0).trans rfl, (blk_cell BK1003.out 1).trans rfl⟩ (fun hHeld => ?_); refine with_tabW impl_LabelsText.tab7 impl_LabelsText.bits7 (fun HT_ HW_ => ?_)
          generalize w14.drew = w15 at HO_3 BK1003 HB hHeld ⊢
          refine pz_ 0 15 1 ?_
          refine pz_ 1 16 3 ?_
          refine pz_ 4 19 19 ?_
          refine tz_ 2 17 23 ?_
          refine pz_ 3 18 31 ?_
          refine tz_ 5 20 63 ?_
          refine one_ (i := 6) (N := some 21) (bz 11 127) rfl rfl (one_of HT_.out (by kernel_rfl)) (by decide) (fun K hK => ?_)
          refine goes_ Try.func75 (by kernel_rfl) rfl #[.string ((rd_T86 l0 x11_1).f1)] (by rfl) rfl rfl ag_ ?_
          with_reducible refine (impl_quote.calls k1 ((rd_T86 l0 x11_1).f1) t1004 _ A9.out).mono ?_
          rintro e w16 ⟨rfl, hb⟩
          refine ⟨_, rfl, ?_⟩
          have n0_ := am_ (Kd.R_below (ro_ HO_3) hb)
          have n1_ := am_ (blk_below (g := gb1003) (vk_ BK1003) hb)
          have n2_ := am_ (below_step bg_ hb)
          clear HO_3
          clear BK1003
          clear HB
          have HO_3 := n0_
          have BK1003 := n1_
          have HB := n2_
          clear n0_ n1_ n2_
          (try clear hb)
          (try clear hb2)
          (try clear hk)
          (try clear hi)
          refine hK.out _ _ ⟨(blk_cell BK1003.out 0).trans rfl, (blk_cell BK1003.out 1).trans rfl⟩ (fun hHeld => ?_)
          clear hK K
          refine norm_ (a' := ?_) ?_ ?_
          rotate_left
          ·show Act.put _ (some 21) _ = _
           simp only [Act.put, List.setIfInBounds_toArray, List.set_cons_zero, List.set_cons_succ, i64_w, i32_w]
           rfl
          refine pz_ 7 22 255 ?_
          refine one_ (i := 8) (N := some 23) (bz 11 511) rfl rfl (one_of HT_.out (by kernel_rfl)) (by decide) (fun K hK => ?_)
          refine value_ (w1 := ?_) (v := ?_) (by rfl) rfl ?_ ?_
          rotate_left 2
          ·go_simp
           constructor
           ·rfl
           ·rfl
          refine hK.out _ _ ⟨(blk_cell (blk_alloc BK1003.out _) 0).trans rfl, (blk_cell (blk_alloc BK1003.out _) 1).trans rfl⟩ (fun hHeld => ?_)
          clear hK K
          refine norm_ (a' := ?_) ?_ ?_
          rotate_left
          ·show Act.put _ (some 23) _ = _
           simp only [Act.put, List.setIfInBounds_toArray, List.set_cons_zero, List.set_cons_succ, i64_w, i32_w]
           rfl
          refine one_ (i := 9) (N := some 24) (bz 11 1023) rfl rfl (one_of HT_.out (by kernel_rfl)) (by decide) (fun K hK => ?_)
          refine Kd.R_append_step Kd.string (w0 := w) w.heap.size (by rfl) (.tmp 15) (.tmp 23) 22 9 (.string ⟨#[]⟩) 16 rfl Try.underlying22 info9 rfl (by decide) (by omega) u3 x3_1 ((((rd_T86 l0 x11_1).f0) ++ (⟨#[61]⟩ : ByteArray)) ++ t1004) [.string ((((rd_T86 l0 x11_1).f0) ++ (⟨#[61]⟩ : ByteArray)) ++ t1004)] (fun _ => True) (fun _ => False) rfl rfl ?aP (fun _ hk => hk.elim) ?aF ?aO ?aB ?aS ?aL ?_
          (case aP => exact rfl)
          (case aB => exact bg_)
          (case aF => exact (fun _ _ => trivial))
          (case aO => exact (ro_ HO_3))
          (case aS => exact (below_size bg_))
          (case aL => have := LMc11.out; omega)
          intro v1006 w17 ho hb hg hat
          rw [← Ny1005.out] at ho
          have n0_ := am_ (blk_grown (g := gb1003) (o := .cells #[.string ((rd_T86 l0 x11_1).f0), .string ((rd_T86 l0 x11_1).f1)] 86 (0, 0)) (vk_ BK1003) hg (Kd.R_ne HO_3.out BK1003.out (by decide)))
          have n1_ := am_ (hb)
          have n2_ := am_ (ho)
          clear BK1003
          clear HB
          clear HO_3
          have BK1003 := n0_
          have HB := n1_
          have HO1007 := n2_
          clear n0_ n1_ n2_
          clear ho hb hg hat
          refine hK.out _ _ ⟨(blk_cell BK1003.out 0).trans rfl, (blk_cell BK1003.out 1).trans rfl⟩ (fun hHeld => ?_)
          clear hK K
          refine norm_ (a' := ?_) ?_ ?_
          rotate_left
          ·show Act.put _ (some 24) _ = _
           simp only [Act.put, List.setIfInBounds_toArray, List.set_cons_zero, List.set_cons_succ, i64_w, i32_w]
           rfl
          refine pz_ 10 3 2047 ?_
          refine done_ (done_of HT_.out (by kernel_rfl)) ?_
          try go_wp2
          go_roundg k1
          case measure => have := HK1.out; omega
          case rel => exact ⟨(y1005), (wrap64 (x11_1 + 1)), rs_, H', ⟨by have := HK1.out; omega⟩, ⟨ro_ HO1007⟩, ⟨bg_⟩⟩
         ·rw [if_neg c11] at H
          exact absurd H (by simp)
        ·rw [if_neg c10] at H
         exact absurd H (by simp)
       ·rw [if_neg c8] at H
        exact absurd H (by simp)
      ·rw [if_neg c7] at H
       exact absurd H (by simp)
     ·rw [if_neg c6] at H
      exact absurd H (by simp)
    ·rw [if_neg c5] at H
     have c5b0 : decide (x11_1 < (l0.length : Int)) = false := decide_eq_false c5
     clear c5
     replace H := Option.bind_eq_some_iff.mp H
     obtain ⟨t1008, A180, H⟩ := H
     replace H : (if 1 + t1008.size ≤ 9223372036854775807 then (if ((⟨#[123]⟩ : ByteArray) ++ t1008).size + 1 ≤ 9223372036854775807 then (some (((⟨#[123]⟩ : ByteArray) ++ t1008) ++ (⟨#[125]⟩ : ByteArray))) else (none)) else (none)) = some r := H
     have A18 := am_ A180
     clear A180
     by_cases c19 : 1 + t1008.size ≤ 9223372036854775807
     ·rw [if_pos c19] at H
      have c19b0 := eq_true c19
      have c19b1 : decide (1 + t1008.size ≤ 9223372036854775807) = true := decide_eq_true c19
      try have c19b2 : (9223372036854775807 < 1 + t1008.size) = False := eq_false (Nat.not_lt.2 c19)
      by_cases c20 : ((⟨#[123]⟩ : ByteArray) ++ t1008).size + 1 ≤ 9223372036854775807
      ·rw [if_pos c20] at H
       have c20b0 := eq_true c20
       have c20b1 : decide (((⟨#[123]⟩ : ByteArray) ++ t1008).size + 1 ≤ 9223372036854775807) = true := decide_eq_true c20
       try have c20b2 : (9223372036854775807 < ((⟨#[123]⟩ : ByteArray) ++ t1008).size + 1) = False := eq_false (Nat.not_lt.2 c20)
       try (have c20b3 := c20b2; simp only [ByteArray.size_append, sz_mk_, List.size_toArray, List.length_cons, List.length_nil, Nat.reduceAdd] at c20b3)
       obtain rfl := Option.some.inj H
       obtain ⟨Ao21, co21, eo21⟩ := Kd.R_slice HO_3.out
       subst eo21
       go_wp2_with (first | ((with_reducible refine gate_callee (f := 76) rfl ?_); refine goesL_ (some 27) rfl rfl Try.func76 (by kernel_rfl) rfl #[.slice Ao21 x3_1.length co21, .string (⟨#[44]⟩ : ByteArray)] rfl ag_ ?_; (with_reducible refine (strings_Join.calls _ _ x3_1 (⟨#[44]⟩ : ByteArray) t1008 _ ?side1 ?side2 A18.out).mono ?_); (case side1 => exact cc_ (Kd.R_reads' HO_3.out).2.2); (case side2 => exact (Kd.R_reads' HO_3.out).2.1); rintro e w22 ⟨rfl, hb⟩; refine ⟨_, rfl, ?_⟩; have n0_ := am_ (Kd.R_below (ro_ HO_3) hb); have n1_ := am_ (below_step bl_ hb); clear HO_3; clear HB; have HO_3 := n0_; have HB := n1_; clear n0_ n1_; (try clear hb); (try clear hb2); (try clear hk); (try clear hi)))
       go_ret
       exact ⟨rf_, bl_⟩
      ·rw [if_neg c20] at H
       exact absurd H (by simp)
     ·rw [if_neg c19] at H
      exact absurd H (by simp)
 ·replace c3 := Bool.eq_false_iff.mpr c3
  subst c3
  have H1 : (some (⟨#[]⟩ : ByteArray)) = some r := by rw [if_neg (show ¬ (false = true) by decide)] at H; exact H
  clear H
  have H := H1
  clear H1
  obtain rfl := Option.some.inj H
  go_enter Try.func27, Try.ntmps27
  go_wp2_with (first | ((with_reducible refine gate_callee (f := 69) rfl ?_); refine goesL_ (some 7) rfl rfl Try.func69 (by kernel_rfl) rfl #[.slice A0 l0.length c0] rfl ag_ ?_; (with_reducible refine (impl_GoodLabels.calls k _ _ l0 false _ ?side1 ?side2 A2.out).mono ?_); (case side1 => repeat (first | exact HR0.out | (with_reducible refine Kd.C_alloc ?_ _) | (with_reducible refine Kd.C_drewN ?_ _) | (with_reducible refine Kd.C_drew ?_))); (case side2 => exact HC0.out); rintro e w23 ⟨rfl, hb⟩; refine ⟨_, rfl, ?_⟩; have n0_ := am_ (below_step bl_ hb); clear HB; have HB := n0_; clear n0_; (try clear hb); (try clear hb2); (try clear hk); (try clear hi)))
  go_ret
  exact ⟨rf_, bl_⟩

end Go.Proofs.Ythgeohdpjedhnaa.Pr
