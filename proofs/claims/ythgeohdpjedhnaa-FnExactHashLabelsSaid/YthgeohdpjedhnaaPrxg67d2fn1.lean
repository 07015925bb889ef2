/- Functions of the given program as plain Lean functions, and that the machine's calls come to them; written by a program of this session; no condition but those that each theorem states. -/
import Derived.Test.YthgeohdpjedhnaaWRepsOne
import Derived.Test.YthgeohdpjedhnaaPrx0
import Derived.Test.YthgeohdpjedhnaaPrxg5570bn1
namespace Go.Proofs.Ythgeohdpjedhnaa.Pr
open Go.RowKit Go.Proofs.YthgeohdpjedhnaaW.PrintWords Go.Proofs.YthgeohdpjedhnaaW.PrintLast Go.Proofs.YthgeohdpjedhnaaW.PrintMore
attribute [local go_sem] max2_int min2_int max_two min_two max_three min_three max_four min_four   -- for this text's walks alone
set_option linter.unusedVariables false
set_option linter.unusedSimpArgs false

/-! ### spec_l2Quoted: function 120 -/
def spec_l2Quoted.l0 : Nat → ByteArray → List Int → Int → Option (ByteArray)
 | 0, _, _, _ => none
 | k + 1, x0, x3, x4 => if x4 < (x0.size : Int) then (if 0 ≤ x4 then (if (bt x0 x4) = 34 then (if x3.length < 140737488355328 then ((some (x3 ++ [92] : List Int)).bind fun y1004 => (if y1004.length < 140737488355328 then (spec_l2Quoted.l0 k x0 (y1004 ++ [bt x0 x4]) (wrap64 (x4 + 1))) else (none))) else (none)) else (if (bt x0 x4) = 92 then (if x3.length < 140737488355328 then ((some (x3 ++ [92] : List Int)).bind fun y1010 => (if y1010.length < 140737488355328 then (spec_l2Quoted.l0 k x0 (y1010 ++ [bt x0 x4]) (wrap64 (x4 + 1))) else (none))) else (none)) else (if x3.length < 140737488355328 then (spec_l2Quoted.l0 k x0 (x3 ++ [bt x0 x4]) (wrap64 (x4 + 1))) else (none)))) else (none)) else (if x3.length < 140737488355328 then (some (strOfNums (x3 ++ [34]))) else (none))
def spec_l2Quoted.f (k : Nat) (a0 : ByteArray) : Option (ByteArray) := spec_l2Quoted.l0 k a0 (([34] : List Int)) 0
theorem spec_l2Quoted.mono_l : ∀ k, (∀ y0 y1 y2, LeO (spec_l2Quoted.l0 k y0 y1 y2) (spec_l2Quoted.l0 (k + 1) y0 y1 y2))
 | 0 => fun _ _ _ r h => by simp [spec_l2Quoted.l0] at h
 | k + 1 => by
  have ih0 := spec_l2Quoted.mono_l k
  ·intro y0 y1 y2
   unfold spec_l2Quoted.l0
   repeat' first
   | with_reducible first | exact ih0 _ _ _ | exact LeO.refl _ | exact LeO.none _ | refine LeO.ite ?_ ?_ | refine LeO.bind ?_ (fun _ => ?_)
   | exact ih0 _ _ _
   | exact LeO.none _
   | refine LeO.ite ?_ ?_
   | refine LeO.bind ?_ (fun _ => ?_)
theorem spec_l2Quoted.mono : ∀ a0 k, LeO (spec_l2Quoted.f k a0) (spec_l2Quoted.f (k + 1) a0) := by
 intro a0 k
 have ih0 := spec_l2Quoted.mono_l k
 unfold spec_l2Quoted.f
 repeat' first
   | with_reducible first | exact ih0 _ _ _ | exact LeO.refl _ | exact LeO.none _ | refine LeO.ite ?_ ?_ | refine LeO.bind ?_ (fun _ => ?_)
   | exact ih0 _ _ _
   | exact LeO.none _
   | refine LeO.ite ?_ ?_
   | refine LeO.bind ?_ (fun _ => ?_)
set_option maxHeartbeats 8000000 in
set_option maxRecDepth 100000 in
theorem spec_l2Quoted.calls (k : Nat) (a0 : ByteArray) (r : ByteArray) (w : World) (h : spec_l2Quoted.f k a0 = some r) :
  Calls Try.prog 120 #[.string a0] w fun e w' => e = .returned (.string r) ∧ Below w.heap.size w w' := by
 have HB := am_ (Below.refl w.heap.size w)
 have H : (spec_l2Quoted.l0 k a0 (([34] : List Int)) 0) = some r := h
 clear h
 obtain ⟨y1001, hy1001⟩ : ∃ y_ : List Int, y_ = (([34] : List Int)) := ⟨_, rfl⟩
 replace H : (spec_l2Quoted.l0 k a0 y1001 0) = some r := by first | (rw [hy1001]; with_reducible exact H) | (have H2_ := (Option.bind_some _ _).symm.trans H; rw [hy1001]; with_reducible exact H2_) | (have H2_ := (Option.bind_some _ _).symm.trans H; with_reducible exact H2_) | with_reducible exact H | (rw [hy1001]; exact H) | exact H
 have Ny1001 := am_ hy1001
 clear hy1001
 have H' := am_ H
 clear H
 go_enter Try.func120, Try.ntmps120
 go_wp2_with (first | ((with_reducible refine gate_dst (N := 5) rfl ?_); refine Kd.R_lit (Kd.int .u8) _ 5 ?hg (N := 5) ?hd (xs := ([34] : List Int)) (inner := [.int .u8 34]) (ok := fun _ => True) (okp := fun _ => True) ?hr ?hp (fun _ hk => hk) trivial (Below.refl _ _) (Nat.le_refl _) (by simp) ?_; (case hd => rfl); (case hg => rfl); (case hr => first | (go_simp; done) | (go_simp; rfl)); (case hp => exact (Reps.one (show Kd.M (Kd.int .u8) _ _ _ 34 [.int .u8 34] from rfl) (Reps.none _ _))); intro v1002 w2 ho3 hb hg_ hnew_; clear hg_ hnew_; (first | rw [← Ny1001.out] at ho3 | (simp only [Int.reduceToNat] at ho3; rw [← Ny1001.out] at ho3)); have n0_ := am_ (Kd.R_lower ho3 (below_size bl_)); have n1_ := am_ (below_step bl_ hb); clear HB; have HO1003 := n0_; have HB := n1_; clear n0_ n1_; clear hb ho3))
 go_loopg [3, 4] k (fun kq v3 v4 w' => ∃ (x3_1 : List Int) (x4_1 : Int), v4 = .int .i64 x4_1 ∧ Aside0 (spec_l2Quoted.l0 kq a0 x3_1 x4_1 = some r) ∧ Aside0 (kq ≤ k) ∧ Aside0 (Kd.R (Kd.int .u8) 5 w' w.heap.size (fun _ => True) v3 x3_1) ∧ Aside0 (Below w.heap.size w w'))
 case atStart => exact ⟨(y1001), (0), rs_, H', ⟨Nat.le_refl _⟩, ⟨ro_ HO1003⟩, ⟨bl_⟩⟩
 case round =>
  clear H'
  try clear c1
  try clear p2
  obtain ⟨x3_1, x4_1, rfl, HA, HK1, HO_3, HB⟩ := hrel
  cases gk with
  | zero => exact absurd HA.out (by simp [spec_l2Quoted.l0])
  | succ k1 =>
   have H := HA.out
   clear HA
   simp only [spec_l2Quoted.l0] at H
   by_cases c4 : x4_1 < (a0.size : Int)
   ·rw [if_pos c4] at H
    have c4b0 : decide (x4_1 < (a0.size : Int)) = true := decide_eq_true c4
    clear c4
    by_cases c5 : 0 ≤ x4_1
    ·rw [if_pos c5] at H
     have c5b0 : decide (0 ≤ x4_1) = true := decide_eq_true c5
     clear c5
     by_cases c7 : (bt a0 x4_1) = 34
     ·rw [if_pos c7] at H
      have c7b0 : ((bt a0 x4_1) == 34) = true := beq_iff_eq.mpr c7
      have c7b1 : ((bt a0 x4_1) != 34) = false := bne_eq_false_iff_eq.mpr c7
      clear c7
      by_cases c8 : x3_1.length < 140737488355328
      ·rw [if_pos c8] at H
       have LMc8 := am_ c8
       clear c8
       obtain ⟨y1004, hy1004⟩ : ∃ y_ : List Int, y_ = (x3_1 ++ [92]) := ⟨_, rfl⟩
       replace H : (if y1004.length < 140737488355328 then (spec_l2Quoted.l0 k1 a0 (y1004 ++ [bt a0 x4_1]) (wrap64 (x4_1 + 1))) else (none)) = some r := by first | (rw [hy1004]; with_reducible exact H) | (have H2_ := (Option.bind_some _ _).symm.trans H; rw [hy1004]; with_reducible exact H2_) | (have H2_ := (Option.bind_some _ _).symm.trans H; with_reducible exact H2_) | with_reducible exact H | (rw [hy1004]; exact H) | exact H
       have Ny1004 := am_ hy1004
       clear hy1004
       by_cases c10 : y1004.length < 140737488355328
       ·rw [if_pos c10] at H
        have LMc10 := am_ c10
        clear c10
        obtain ⟨y1007, hy1007⟩ : ∃ y_ : List Int, y_ = (y1004 ++ [bt a0 x4_1]) := ⟨_, rfl⟩
        replace H : (spec_l2Quoted.l0 k1 a0 y1007 (wrap64 (x4_1 + 1))) = some r := by first | (rw [hy1007]; with_reducible exact H) | (have H2_ := (Option.bind_some _ _).symm.trans H; rw [hy1007]; with_reducible exact H2_) | (have H2_ := (Option.bind_some _ _).symm.trans H; with_reducible exact H2_) | with_reducible exact H | (rw [hy1007]; exact H) | exact H
        have Ny1007 := am_ hy1007
        clear hy1007
        have H' := am_ H
        clear H
        have p6 : 0 ≤ (x4_1 : Int) := od_
        have q6 : x4_1 < (a0.size : Int) := od_
        have hx6 := bt_at a0 x4_1
        replace p6 := eq_true p6
        replace q6 := eq_true q6
        go_wp2_with (first | ((with_reducible refine gate_builtin (b := .append) (xs := #[.tmp 22, .tmp 23]) rfl ?_); at_builtin; refine Kd.R_append (Kd.int .u8) (w0 := w) w.heap.size rfl (.tmp 22) (.tmp 23) 93 5 (.int .u8 0) 1 rfl Try.underlying93 info5 rfl (by decide) (by omega) u3 x3_1 92 [.int .u8 92] (fun _ => True) (fun _ => False) rfl rfl ?aP (fun _ hk => hk.elim) ?aF ?aO ?aB ?aS ?aL ?_; (case aP => exact rfl); (case aB => exact bl_); (case aF => exact (fun _ _ => trivial)); (case aO => exact (ro_ HO_3)); (case aS => exact (below_size bl_)); (case aL => have := LMc8.out; omega); intro v1005 w11 ho hb hg hat; rw [← Ny1004.out] at ho; have n0_ := am_ (hb); have n1_ := am_ (ho); clear HB; clear HO_3; have HB := n0_; have HO1006 := n1_; clear n0_ n1_; clear ho hb hg hat; have p9 : 0 ≤ (x4_1 : Int) := od_; have q9 : x4_1 < (a0.size : Int) := od_; have hx9 := bt_at a0 x4_1; replace p9 := eq_true p9; replace q9 := eq_true q9) | ((with_reducible refine gate_builtin (b := .append) (xs := #[.tmp 25, .tmp 29]) rfl ?_); at_builtin; refine Kd.R_append (Kd.int .u8) (w0 := w) w.heap.size rfl (.tmp 25) (.tmp 29) 93 5 (.int .u8 0) 1 rfl Try.underlying93 info5 rfl (by decide) (by omega) v1005 y1004 (bt a0 x4_1) [.int .u8 (bt a0 x4_1)] (fun _ => True) (fun _ => False) rfl rfl ?aP (fun _ hk => hk.elim) ?aF ?aO ?aB ?aS ?aL ?_; (case aP => exact rfl); (case aB => exact bl_); (case aF => exact (fun _ _ => trivial)); (case aO => exact (ro_ HO1006)); (case aS => exact (below_size bl_)); (case aL => have := LMc10.out; omega); intro v1008 w12 ho hb hg hat; rw [← Ny1007.out] at ho; have n0_ := am_ (hb); have n1_ := am_ (ho); clear HB; clear HO1006; have HB := n0_; have HO1009 := n1_; clear n0_ n1_; clear ho hb hg hat))
        go_roundg k1
        case measure => have := HK1.out; omega
        case rel => exact ⟨(y1007), (wrap64 (x4_1 + 1)), rs_, H', ⟨by have := HK1.out; omega⟩, ⟨ro_ HO1009⟩, ⟨bl_⟩⟩
       ·rw [if_neg c10] at H
        exact absurd H (by simp)
      ·rw [if_neg c8] at H
       exact absurd H (by simp)
     ·rw [if_neg c7] at H
      have c7b0 : ((bt a0 x4_1) == 34) = false := beq_eq_false_iff_ne.mpr c7
      have c7b1 : ((bt a0 x4_1) != 34) = true := bne_iff_ne.mpr c7
      by_cases c14 : (bt a0 x4_1) = 92
      ·rw [if_pos c14] at H
       have c14b0 : ((bt a0 x4_1) == 92) = true := beq_iff_eq.mpr c14
       have c14b1 : ((bt a0 x4_1) != 92) = false := bne_eq_false_iff_eq.mpr c14
       clear c14
       by_cases c15 : x3_1.length < 140737488355328
       ·rw [if_pos c15] at H
        have LMc15 := am_ c15
        clear c15
        obtain ⟨y1010, hy1010⟩ : ∃ y_ : List Int, y_ = (x3_1 ++ [92]) := ⟨_, rfl⟩
        replace H : (if y1010.length < 140737488355328 then (spec_l2Quoted.l0 k1 a0 (y1010 ++ [bt a0 x4_1]) (wrap64 (x4_1 + 1))) else (none)) = some r := by first | (rw [hy1010]; with_reducible exact H) | (have H2_ := (Option.bind_some _ _).symm.trans H; rw [hy1010]; with_reducible exact H2_) | (have H2_ := (Option.bind_some _ _).symm.trans H; with_reducible exact H2_) | with_reducible exact H | (rw [hy1010]; exact H) | exact H
        have Ny1010 := am_ hy1010
        clear hy1010
        by_cases c17 : y1010.length < 140737488355328
        ·rw [if_pos c17] at H
         have LMc17 := am_ c17
         clear c17
         obtain ⟨y1013, hy1013⟩ : ∃ y_ : List Int, y_ = (y1010 ++ [bt a0 x4_1]) := ⟨_, rfl⟩
         replace H : (spec_l2Quoted.l0 k1 a0 y1013 (wrap64 (x4_1 + 1))) = some r := by first | (rw [hy1013]; with_reducible exact H) | (have H2_ := (Option.bind_some _ _).symm.trans H; rw [hy1013]; with_reducible exact H2_) | (have H2_ := (Option.bind_some _ _).symm.trans H; with_reducible exact H2_) | with_reducible exact H | (rw [hy1013]; exact H) | exact H
         have Ny1013 := am_ hy1013
         clear hy1013
         have H' := am_ H
         clear H
         have p6 : 0 ≤ (x4_1 : Int) := od_
         have q6 : x4_1 < (a0.size : Int) := od_
         have hx6 := bt_at a0 x4_1
         replace p6 := eq_true p6
         replace q6 := eq_true q6
         have p13 : 0 ≤ (x4_1 : Int) := od_
         have q13 : x4_1 < (a0.size : Int) := od_
         have hx13 := bt_at a0 x4_1
         replace p13 := eq_true p13
         replace q13 := eq_true q13
         go_wp2_with (first | ((with_reducible refine gate_builtin (b := .append) (xs := #[.tmp 22, .tmp 23]) rfl ?_); at_builtin; refine Kd.R_append (Kd.int .u8) (w0 := w) w.heap.size rfl (.tmp 22) (.tmp 23) 93 5 (.int .u8 0) 1 rfl Try.underlying93 info5 rfl (by decide) (by omega) u3 x3_1 92 [.int .u8 92] (fun _ => True) (fun _ => False) rfl rfl ?aP (fun _ hk => hk.elim) ?aF ?aO ?aB ?aS ?aL ?_; (case aP => exact rfl); (case aB => exact bl_); (case aF => exact (fun _ _ => trivial)); (case aO => exact (ro_ HO_3)); (case aS => exact (below_size bl_)); (case aL => have := LMc15.out; omega); intro v1011 w18 ho hb hg hat; rw [← Ny1010.out] at ho; have n0_ := am_ (hb); have n1_ := am_ (ho); clear HB; clear HO_3; have HB := n0_; have HO1012 := n1_; clear n0_ n1_; clear ho hb hg hat; have p16 : 0 ≤ (x4_1 : Int) := od_; have q16 : x4_1 < (a0.size : Int) := od_; have hx16 := bt_at a0 x4_1; replace p16 := eq_true p16; replace q16 := eq_true q16) | ((with_reducible refine gate_builtin (b := .append) (xs := #[.tmp 25, .tmp 29]) rfl ?_); at_builtin; refine Kd.R_append (Kd.int .u8) (w0 := w) w.heap.size rfl (.tmp 25) (.tmp 29) 93 5 (.int .u8 0) 1 rfl Try.underlying93 info5 rfl (by decide) (by omega) v1011 y1010 (bt a0 x4_1) [.int .u8 (bt a0 x4_1)] (fun _ => True) (fun _ => False) rfl rfl ?aP (fun _ hk => hk.elim) ?aF ?aO ?aB ?aS ?aL ?_; (case aP => exact rfl); (case aB => exact bl_); (case aF => exact (fun _ _ => trivial)); (case aO => exact (ro_ HO1012)); (case aS => exact (below_size bl_)); (case aL => have := LMc17.out; omega); intro v1014 w19 ho hb hg hat; rw [← Ny1013.out] at ho; have n0_ := am_ (hb); have n1_ := am_ (ho); clear HB; clear HO1012; have HB := n0_; have HO1015 := n1_; clear n0_ n1_; clear ho hb hg hat))
         go_roundg k1
         case measure => have := HK1.out; omega
         case rel => exact ⟨(y1013), (wrap64 (x4_1 + 1)), rs_, H', ⟨by have := HK1.out; omega⟩, ⟨ro_ HO1015⟩, ⟨bl_⟩⟩
        ·rw [if_neg c17] at H
         exact absurd H (by simp)
       ·rw [if_neg c15] at H
        exact absurd H (by simp)
      ·rw [if_neg c14] at H
       have c14b0 : ((bt a0 x4_1) == 92) = false := beq_eq_false_iff_ne.mpr c14
       have c14b1 : ((bt a0 x4_1) != 92) = true := bne_iff_ne.mpr c14
       by_cases c21 : x3_1.length < 140737488355328
       ·rw [if_pos c21] at H
        have LMc21 := am_ c21
        clear c21
        obtain ⟨y1016, hy1016⟩ : ∃ y_ : List Int, y_ = (x3_1 ++ [bt a0 x4_1]) := ⟨_, rfl⟩
        replace H : (spec_l2Quoted.l0 k1 a0 y1016 (wrap64 (x4_1 + 1))) = some r := by first | (rw [hy1016]; with_reducible exact H) | (have H2_ := (Option.bind_some _ _).symm.trans H; rw [hy1016]; with_reducible exact H2_) | (have H2_ := (Option.bind_some _ _).symm.trans H; with_reducible exact H2_) | with_reducible exact H | (rw [hy1016]; exact H) | exact H
        have Ny1016 := am_ hy1016
        clear hy1016
        have H' := am_ H
        clear H
        have p6 : 0 ≤ (x4_1 : Int) := od_
        have q6 : x4_1 < (a0.size : Int) := od_
        have hx6 := bt_at a0 x4_1
        replace p6 := eq_true p6
        replace q6 := eq_true q6
        have p13 : 0 ≤ (x4_1 : Int) := od_
        have q13 : x4_1 < (a0.size : Int) := od_
        have hx13 := bt_at a0 x4_1
        replace p13 := eq_true p13
        replace q13 := eq_true q13
        have p20 : 0 ≤ (x4_1 : Int) := od_
        have q20 : x4_1 < (a0.size : Int) := od_
        have hx20 := bt_at a0 x4_1
        replace p20 := eq_true p20
        replace q20 := eq_true q20
        go_wp2_with (first | ((with_reducible refine gate_builtin (b := .append) (xs := #[.tmp 25, .tmp 29]) rfl ?_); at_builtin; refine Kd.R_append (Kd.int .u8) (w0 := w) w.heap.size rfl (.tmp 25) (.tmp 29) 93 5 (.int .u8 0) 1 rfl Try.underlying93 info5 rfl (by decide) (by omega) u3 x3_1 (bt a0 x4_1) [.int .u8 (bt a0 x4_1)] (fun _ => True) (fun _ => False) rfl rfl ?aP (fun _ hk => hk.elim) ?aF ?aO ?aB ?aS ?aL ?_; (case aP => exact rfl); (case aB => exact bl_); (case aF => exact (fun _ _ => trivial)); (case aO => exact (ro_ HO_3)); (case aS => exact (below_size bl_)); (case aL => have := LMc21.out; omega); intro v1017 w22 ho hb hg hat; rw [← Ny1016.out] at ho; have n0_ := am_ (hb); have n1_ := am_ (ho); clear HB; clear HO_3; have HB := n0_; have HO1018 := n1_; clear n0_ n1_; clear ho hb hg hat))
        go_roundg k1
        case measure => have := HK1.out; omega
        case rel => exact ⟨(y1016), (wrap64 (x4_1 + 1)), rs_, H', ⟨by have := HK1.out; omega⟩, ⟨ro_ HO1018⟩, ⟨bl_⟩⟩
       ·rw [if_neg c21] at H
        exact absurd H (by simp)
    ·rw [if_neg c5] at H
     exact absurd H (by simp)
   ·rw [if_neg c4] at H
    have c4b0 : decide (x4_1 < (a0.size : Int)) = false := decide_eq_false c4
    clear c4
    by_cases c23 : x3_1.length < 140737488355328
    ·rw [if_pos c23] at H
     have LMc23 := am_ c23
     clear c23
     obtain ⟨y1019, hy1019⟩ : ∃ y_ : List Int, y_ = (x3_1 ++ [34]) := ⟨_, rfl⟩
     replace H : (some (strOfNums y1019)) = some r := by first | (rw [hy1019]; with_reducible exact H) | (have H2_ := (Option.bind_some _ _).symm.trans H; rw [hy1019]; with_reducible exact H2_) | (have H2_ := (Option.bind_some _ _).symm.trans H; with_reducible exact H2_) | with_reducible exact H | (rw [hy1019]; exact H) | exact H
     have Ny1019 := am_ hy1019
     clear hy1019
     obtain rfl := Option.some.inj H
     go_wp2_with (first | ((with_reducible refine gate_builtin (b := .append) (xs := #[.tmp 31, .tmp 32]) rfl ?_); at_builtin; refine Kd.R_append (Kd.int .u8) (w0 := w) w.heap.size rfl (.tmp 31) (.tmp 32) 93 5 (.int .u8 0) 1 rfl Try.underlying93 info5 rfl (by decide) (by omega) u3 x3_1 34 [.int .u8 34] (fun _ => True) (fun _ => False) rfl rfl ?aP (fun _ hk => hk.elim) ?aF ?aO ?aB ?aS ?aL ?_; (case aP => exact rfl); (case aB => exact bl_); (case aF => exact (fun _ _ => trivial)); (case aO => exact (ro_ HO_3)); (case aS => exact (below_size bl_)); (case aL => have := LMc23.out; omega); intro v1020 w24 ho hb hg hat; rw [← Ny1019.out] at ho; have n0_ := am_ (hb); have n1_ := am_ (ho); clear HB; clear HO_3; have HB := n0_; have HO1021 := n1_; clear n0_ n1_; clear ho hb hg hat; have hcv25 := own_string (P := Try.prog) Try.underlying93 Try.underlying5 Try.underlying9 (Kd.own_of_R HO1021.out)))
     go_ret
     exact ⟨rf_, bl_⟩
    ·rw [if_neg c23] at H
     exact absurd H (by simp)

/-! ### spec_l2Text: function 74 -/
def spec_l2Text.l0 : Nat → ByteArray → List (S86) → Int → Int → Option (ByteArray)
 | 0, _, _, _, _ => none
 | k + 1, x3, x6, x7, x8 => if x8 < x7 then (if 0 ≤ x8 then (if x8 < (x6.length : Int) then (if x8 > 0 then (if x3.size + 1 ≤ 9223372036854775807 then (if ((rd_T86 x6 x8).f0).size + 1 ≤ 9223372036854775807 then ((spec_l2Quoted.f k ((rd_T86 x6 x8).f1)).bind fun t1003 => (if (((rd_T86 x6 x8).f0) ++ (⟨#[61]⟩ : ByteArray)).size + t1003.size ≤ 9223372036854775807 then (if (x3 ++ (⟨#[44]⟩ : ByteArray)).size + ((((rd_T86 x6 x8).f0) ++ (⟨#[61]⟩ : ByteArray)) ++ t1003).size ≤ 9223372036854775807 then (spec_l2Text.l0 k ((x3 ++ (⟨#[44]⟩ : ByteArray)) ++ ((((rd_T86 x6 x8).f0) ++ (⟨#[61]⟩ : ByteArray)) ++ t1003)) x6 x7 (wrap64 (x8 + 1))) else (none)) else (none))) else (none)) else (none)) else (if ((rd_T86 x6 x8).f0).size + 1 ≤ 9223372036854775807 then ((spec_l2Quoted.f k ((rd_T86 x6 x8).f1)).bind fun t1004 => (if (((rd_T86 x6 x8).f0) ++ (⟨#[61]⟩ : ByteArray)).size + t1004.size ≤ 9223372036854775807 then (if x3.size + ((((rd_T86 x6 x8).f0) ++ (⟨#[61]⟩ : ByteArray)) ++ t1004).size ≤ 9223372036854775807 then (spec_l2Text.l0 k (x3 ++ ((((rd_T86 x6 x8).f0) ++ (⟨#[61]⟩ : ByteArray)) ++ t1004)) x6 x7 (wrap64 (x8 + 1))) else (none)) else (none))) else (none))) else (none)) else (none)) else (if x3.size + 1 ≤ 9223372036854775807 then (some (x3 ++ (⟨#[125]⟩ : ByteArray))) else (none))
def spec_l2Text.f (k : Nat) (l0 : List (S86)) : Option (ByteArray) := spec_l2Text.l0 k (⟨#[123]⟩ : ByteArray) l0 (l0.length : Int) 0
theorem spec_l2Text.mono_l : ∀ k, (∀ y0 y1 y2 y3, LeO (spec_l2Text.l0 k y0 y1 y2 y3) (spec_l2Text.l0 (k + 1) y0 y1 y2 y3))
 | 0 => fun _ _ _ _ r h => by simp [spec_l2Text.l0] at h
 | k + 1 => by
  have ih0 := spec_l2Text.mono_l k
  ·intro y0 y1 y2 y3
   unfold spec_l2Text.l0
   repeat' first
   | with_reducible first | exact ih0 _ _ _ _ | exact spec_l2Quoted.mono _ _ | exact LeO.refl _ | exact LeO.none _ | refine LeO.ite ?_ ?_ | refine LeO.bind ?_ (fun _ => ?_)
   | exact ih0 _ _ _ _
   | exact spec_l2Quoted.mono _ _
   | exact LeO.none _
   | refine LeO.ite ?_ ?_
   | refine LeO.bind ?_ (fun _ => ?_)
theorem spec_l2Text.mono : ∀ a0 k, LeO (spec_l2Text.f k a0) (spec_l2Text.f (k + 1) a0) := by
 intro a0 k
 have ih0 := spec_l2Text.mono_l k
 unfold spec_l2Text.f
 repeat' first
   | with_reducible first | exact ih0 _ _ _ _ | exact spec_l2Quoted.mono _ _ | exact LeO.refl _ | exact LeO.none _ | refine LeO.ite ?_ ?_ | refine LeO.bind ?_ (fun _ => ?_)
   | exact ih0 _ _ _ _
   | exact spec_l2Quoted.mono _ _
   | exact LeO.none _
   | refine LeO.ite ?_ ?_
   | refine LeO.bind ?_ (fun _ => ?_)
def spec_l2Text.T7 : Bool × List (List Nat × List Nat) := (true, [([], []), ([], []), ([1], [1]), ([2], [2]), ([], []), ([4], [4]), ([5], [5]), ([3, 6], [3, 6]), ([0, 7], [0, 7]), ([8, 6, 0, 1, 2, 3, 4, 5, 6, 7, 8], [0, 8])])
def spec_l2Text.B7 : List Nat := [0, 0, 2, 6, 0, 16, 48, 126, 255, 511]
theorem spec_l2Text.tab7 : rtab .any (opsOf Try.f74 7) = spec_l2Text.T7 := by kernel_rfl
theorem spec_l2Text.bits7 : waitsOk spec_l2Text.T7.2 spec_l2Text.B7 = true := by kernel_rfl
set_option maxHeartbeats 8000000 in
set_option maxRecDepth 100000 in
theorem spec_l2Text.calls (k : Nat) (A0 : Option Addr) (c0 : Nat) (l0 : List (S86)) (r : ByteArray) (w : World) (hr0 : Kd.C k86 w A0 l0.length l0) (hc0 : l0.length ≤ c0) (h : spec_l2Text.f k l0 = some r) :
  Calls Try.prog 74 #[.slice A0 l0.length c0] w fun e w' => e = .returned (.string r) ∧ Below w.heap.size w w' := by
 have hu86 := Try.underlying86
 have HR0 := am_ hr0
 have HC0 := am_ hc0
 clear hr0 hc0
 have HB := am_ (Below.refl w.heap.size w)
 have H : (spec_l2Text.l0 k (⟨#[123]⟩ : ByteArray) l0 (l0.length : Int) 0) = some r := h
 clear h
 have H' := am_ H
 clear H
 go_enter Try.func74, Try.ntmps74
 go_wp2
 go_loopg [3, 8] k (fun kq v3 v8 w' => ∃ (x3_1 : ByteArray) (x8_1 : Int), v3 = .string x3_1 ∧ v8 = .int .i64 x8_1 ∧ Aside0 (spec_l2Text.l0 kq x3_1 l0 (l0.length : Int) x8_1 = some r) ∧ Aside0 (kq ≤ k) ∧ Aside0 (Below w.heap.size w w'))
 case atStart => exact ⟨((⟨#[123]⟩ : ByteArray)), (0), rs_, rs_, H', ⟨Nat.le_refl _⟩, ⟨bl_⟩⟩
 case round =>
  clear H'
  obtain ⟨x3_1, x8_1, rfl, rfl, HA, HK1, HB⟩ := hrel
  cases gk with
  | zero => exact absurd HA.out (by simp [spec_l2Text.l0])
  | succ k1 =>
   have H := HA.out
   clear HA
   simp only [spec_l2Text.l0] at H
   by_cases c2 : x8_1 < (l0.length : Int)
   ·rw [if_pos c2] at H
    have c2b0 : decide (x8_1 < (l0.length : Int)) = true := decide_eq_true c2
    clear c2
    by_cases c3 : 0 ≤ x8_1
    ·rw [if_pos c3] at H
     have c3b0 : decide (0 ≤ x8_1) = true := decide_eq_true c3
     clear c3
     by_cases c4 : x8_1 < (l0.length : Int)
     ·rw [if_pos c4] at H
      have c4b0 : decide (x8_1 < (l0.length : Int)) = true := decide_eq_true c4
      clear c4
      by_cases c5 : x8_1 > 0
      ·rw [if_pos c5] at H
       have c5b0 : decide (0 < x8_1) = true := decide_eq_true c5
       clear c5
       by_cases c6 : x3_1.size + 1 ≤ 9223372036854775807
       ·rw [if_pos c6] at H
        have c6b0 := eq_true c6
        have c6b1 : decide (x3_1.size + 1 ≤ 9223372036854775807) = true := decide_eq_true c6
        try have c6b2 : (9223372036854775807 < x3_1.size + 1) = False := eq_false (Nat.not_lt.2 c6)
        by_cases c7 : ((rd_T86 l0 x8_1).f0).size + 1 ≤ 9223372036854775807
        ·rw [if_pos c7] at H
         have c7b0 := eq_true c7
         have c7b1 : decide (((rd_T86 l0 x8_1).f0).size + 1 ≤ 9223372036854775807) = true := decide_eq_true c7
         try have c7b2 : (9223372036854775807 < ((rd_T86 l0 x8_1).f0).size + 1) = False := eq_false (Nat.not_lt.2 c7)
         replace H := Option.bind_eq_some_iff.mp H
         obtain ⟨t1003, A80, H⟩ := H
         replace H : (if (((rd_T86 l0 x8_1).f0) ++ (⟨#[61]⟩ : ByteArray)).size + t1003.size ≤ 9223372036854775807 then (if (x3_1 ++ (⟨#[44]⟩ : ByteArray)).size + ((((rd_T86 l0 x8_1).f0) ++ (⟨#[61]⟩ : ByteArray)) ++ t1003).size ≤ 9223372036854775807 then (spec_l2Text.l0 k1 ((x3_1 ++ (⟨#[44]⟩ : ByteArray)) ++ ((((rd_T86 l0 x8_1).f0) ++ (⟨#[61]⟩ : ByteArray)) ++ t1003)) l0 (l0.length : Int) (wrap64 (x8_1 + 1))) else (none)) else (none)) = some r := H
         have A8 := am_ A80
         clear A80
         by_cases c9 : (((rd_T86 l0 x8_1).f0) ++ (⟨#[61]⟩ : ByteArray)).size + t1003.size ≤ 9223372036854775807
         ·rw [if_pos c9] at H
          have c9b0 := eq_true c9
          have c9b1 : decide ((((rd_T86 l0 x8_1).f0) ++ (⟨#[61]⟩ : ByteArray)).size + t1003.size ≤ 9223372036854775807) = true := decide_eq_true c9
          try have c9b2 : (9223372036854775807 < (((rd_T86 l0 x8_1).f0) ++ (⟨#[61]⟩ : ByteArray)).size + t1003.size) = False := eq_false (Nat.not_lt.2 c9)
          try (have c9b3 := c9b2; simp only [ByteArray.size_append, sz_mk_, List.size_toArray, List.length_cons, List.length_nil, Nat.reduceAdd] at c9b3)
          by_cases c10 : (x3_1 ++ (⟨#[44]⟩ : ByteArray)).size + ((((rd_T86 l0 x8_1).f0) ++ (⟨#[61]⟩ : ByteArray)) ++ t1003).size ≤ 9223372036854775807
          ·rw [if_pos c10] at H
           have c10b0 := eq_true c10
           have c10b1 : decide ((x3_1 ++ (⟨#[44]⟩ : ByteArray)).size + ((((rd_T86 l0 x8_1).f0) ++ (⟨#[61]⟩ : ByteArray)) ++ t1003).size ≤ 9223372036854775807) = true := decide_eq_true c10
           try have c10b2 : (9223372036854775807 < (x3_1 ++ (⟨#[44]⟩ : ByteArray)).size + ((((rd_T86 l0 x8_1).f0) ++ (⟨#[61]⟩ : ByteArray)) ++ t1003).size) = False := eq_false (Nat.not_lt.2 c10)
           try (have c10b3 := c10b2; simp only [ByteArray.size_append, sz_mk_, List.size_toArray, List.length_cons, List.length_nil, Nat.reduceAdd] at c10b3)
           have H' := am_ H
           clear H
           have p1001 : 0 ≤ (x8_1 : Int) := od_
           have q1001 : x8_1 < (l0.length : Int) := od_
           obtain ⟨ad1001, e1001, hx1001_0, hx1001_1⟩ := at_T86 HR0.out x8_1 p1001 q1001
           cases e1001
           replace hx1001_0 := kp_ HB hx1001_0
           replace hx1001_1 := kp_ HB hx1001_1
           replace p1001 := eq_true p1001
           replace q1001 := eq_true q1001
           try go_wp2_with (first | ((with_reducible refine gate_dst (N := 5) rfl ?_); refine box_event ?hg (N := 5) ?hd (cs := #[.string (⟨#[]⟩ : ByteArray), .string (⟨#[]⟩ : ByteArray)]) (t := 86) ?hr ?_; (case hd => rfl); (case hg => rfl); (case hr => first | (go_simp; done) | (go_simp; rfl)); intro gb1002 hg w11 hbox hb; have n0_ := am_ (below_step bl_ hb); have n1_ := am_ (hbox); have n2_ := am_ (gs_ hg : w.heap.size ≤ gb1002); have n3_ := n2_; clear HB; have HB := n0_; have BK1002 := n1_; have GW1002 := n2_; have GE1002 := n3_; clear n0_ n1_ n2_ n3_; clear hb hbox hg; have hcz12_0 := bc2_0 BK1002; have hcz12_1 := bc2_1 BK1002; have hfz12_0 := bf_ BK1002 0; have hfz12_1 := bf_ BK1002 1))
           have n0_ : Aside0 (((w11.setCell ⟨gb1002, 0, none⟩ (.string ((rd_T86 l0 x8_1).f0))).setCell ⟨gb1002, 1, none⟩ (.string ((rd_T86 l0 x8_1).f1))).heap[gb1002]? = some (.cells #[.string ((rd_T86 l0 x8_1).f0), .string ((rd_T86 l0 x8_1).f1)] 86 (0, 0))) := ⟨by (with_reducible repeat (first | refine blk_drewN ?_ _ | refine blk_drew ?_ | refine blk_alloc ?_ _)); refine blk_put (cs := #[.string ((rd_T86 l0 x8_1).f0), .string (⟨#[]⟩ : ByteArray)]) ?_ 1 _ rfl; (with_reducible repeat (first | refine blk_drewN ?_ _ | refine blk_drew ?_ | refine blk_alloc ?_ _)); refine blk_put (cs := #[.string (⟨#[]⟩ : ByteArray), .string (⟨#[]⟩ : ByteArray)]) ?_ 0 _ rfl; (with_reducible repeat (first | refine blk_drewN ?_ _ | refine blk_drew ?_ | refine blk_alloc ?_ _)); exact BK1002.out⟩
           have n1_ : Aside0 (Below w.heap.size w ((w11.setCell ⟨gb1002, 0, none⟩ (.string ((rd_T86 l0 x8_1).f0))).setCell ⟨gb1002, 1, none⟩ (.string ((rd_T86 l0 x8_1).f1)))) := ⟨bg_⟩
           (try clear BK1002)
           (try clear HB)
           generalize ((w11.setCell ⟨gb1002, 0, none⟩ (.string ((rd_T86 l0 x8_1).f0))).setCell ⟨gb1002, 1, none⟩ (.string ((rd_T86 l0 x8_1).f1))) = w13 at n0_ n1_ ⊢
           have BK1002 := n0_
           have HB := n1_
           clear n0_ n1_
           have n0_ := am_ (blk_drew BK1002.out)
           have n1_ := am_ (below_drew1 HB.out)
           clear BK1002
           clear HB
           have BK1002 := n0_
           have HB := n1_
           clear n0_ n1_
           refine start_ (n := 10) (S := fun w' => w'.cell? ⟨gb1002, 0, none⟩ = some (.string ((rd_T86 l0 x8_1).f0)) ∧ w'.cell? ⟨gb1002, 1, none⟩ = some (.string ((rd_T86 l0 x8_1).f1))) (ds := []) (bz 10 0) (by kernel_rfl) rfl rfl ⟨(blk_cell BK1002.out 0).trans rfl, (blk_cell BK1002.out 1).trans rfl⟩ (fun hHeld => ?_); refine with_tabW spec_l2Text.tab7 spec_l2Text.bits7 (fun HT_ HW_ => ?_)
           generalize w13.drew = w14 at BK1002 HB hHeld ⊢
           refine pz_ 0 17 1 ?_
           refine pz_ 1 18 3 ?_
           refine pz_ 4 21 19 ?_
           refine tz_ 2 19 23 ?_
           refine pz_ 3 20 31 ?_
           refine tz_ 5 22 63 ?_
           refine one_ (i := 6) (N := some 23) (bz 10 127) rfl rfl (one_of HT_.out (by kernel_rfl)) (by decide) (fun K hK => ?_)
           refine goes_ Try.func120 (by kernel_rfl) rfl #[.string ((rd_T86 l0 x8_1).f1)] (by rfl) rfl rfl ag_ ?_
           with_reducible refine (spec_l2Quoted.calls k1 ((rd_T86 l0 x8_1).f1) t1003 _ A8.out).mono ?_
           rintro e w15 ⟨rfl, hb⟩
           refine ⟨_, rfl, ?_⟩
           have n0_ := am_ (blk_below (g := gb1002) (vk_ BK1002) hb)
           have n1_ := am_ (below_step bg_ hb)
           clear BK1002
           clear HB
           have BK1002 := n0_
           have HB := n1_
           clear n0_ n1_
           (try clear hb)
           (try clear hb2)
           (try clear hk)
           (try clear hi)
           refine hK.out _ _ ⟨(blk_cell BK1002.out 0).trans rfl, (blk_cell BK1002.out 1).trans rfl⟩ (fun hHeld => ?_)
           clear hK K
           refine norm_ (a' := ?_) ?_ ?_
           rotate_left
           ·show Act.put _ (some 23) _ = _
            simp only [Act.put, List.setIfInBounds_toArray, List.set_cons_zero, List.set_cons_succ, i64_w, i32_w]
            rfl
           refine pz_ 7 24 255 ?_
           refine pz_ 8 25 511 ?_
           refine pz_ 9 3 1023 ?_
           refine done_ (done_of HT_.out (by kernel_rfl)) ?_
           try go_wp2
           go_roundg k1
           case measure => have := HK1.out; omega
           case rel => exact ⟨((x3_1 ++ (⟨#[44]⟩ : ByteArray)) ++ ((((rd_T86 l0 x8_1).f0) ++ (⟨#[61]⟩ : ByteArray)) ++ t1003)), (wrap64 (x8_1 + 1)), rs_, rs_, H', ⟨by have := HK1.out; omega⟩, ⟨bg_⟩⟩
          ·rw [if_neg c10] at H
           exact absurd H (by simp)
         ·rw [if_neg c9] at H
          exact absurd H (by simp)
        ·rw [if_neg c7] at H
         exact absurd H (by simp)
       ·rw [if_neg c6] at H
        exact absurd H (by simp)
      ·rw [if_neg c5] at H
       have c5b0 : decide (0 < x8_1) = false := decide_eq_false c5
       clear c5
       by_cases c16 : ((rd_T86 l0 x8_1).f0).size + 1 ≤ 9223372036854775807
       ·rw [if_pos c16] at H
        have c16b0 := eq_true c16
        have c16b1 : decide (((rd_T86 l0 x8_1).f0).size + 1 ≤ 9223372036854775807) = true := decide_eq_true c16
        try have c16b2 : (9223372036854775807 < ((rd_T86 l0 x8_1).f0).size + 1) = False := eq_false (Nat.not_lt.2 c16)
        replace H := Option.bind_eq_some_iff.mp H
        obtain ⟨t1004, A170, H⟩ := H
        replace H : (if (((rd_T86 l0 x8_1).f0) ++ (⟨#[61]⟩ : ByteArray)).size + t1004.size ≤ 9223372036854775807 then (if x3_1.size + ((((rd_T86 l0 x8_1).f0) ++ (⟨#[61]⟩ : ByteArray)) ++ t1004).size ≤ 9223372036854775807 then (spec_l2Text.l0 k1 (x3_1 ++ ((((rd_T86 l0 x8_1).f0) ++ (⟨#[61]⟩ : ByteArray)) ++ t1004)) l0 (l0.length : Int) (wrap64 (x8_1 + 1))) else (none)) else (none)) = some r := H
        have A17 := am_ A170
        clear A170
        by_cases c18 : (((rd_T86 l0 x8_1).f0) ++ (⟨#[61]⟩ : ByteArray)).size + t1004.size ≤ 9223372036854775807
        ·rw [if_pos c18] at H
         have c18b0 := eq_true c18
         have c18b1 : decide ((((rd_T86 l0 x8_1).f0) ++ (⟨#[61]⟩ : ByteArray)).size + t1004.size ≤ 9223372036854775807) = true := decide_eq_true c18
         try have c18b2 : (9223372036854775807 < (((rd_T86 l0 x8_1).f0) ++ (⟨#[61]⟩ : ByteArray)).size + t1004.size) = False := eq_false (Nat.not_lt.2 c18)
         try (have c18b3 := c18b2; simp only [ByteArray.size_append, sz_mk_, List.size_toArray, List.length_cons, List.length_nil, Nat.reduceAdd] at c18b3)
         by_cases c19 : x3_1.size + ((((rd_T86 l0 x8_1).f0) ++ (⟨#[61]⟩ : ByteArray)) ++ t1004).size ≤ 9223372036854775807
         ·rw [if_pos c19] at H
          have c19b0 := eq_true c19
          have c19b1 : decide (x3_1.size + ((((rd_T86 l0 x8_1).f0) ++ (⟨#[61]⟩ : ByteArray)) ++ t1004).size ≤ 9223372036854775807) = true := decide_eq_true c19
          try have c19b2 : (9223372036854775807 < x3_1.size + ((((rd_T86 l0 x8_1).f0) ++ (⟨#[61]⟩ : ByteArray)) ++ t1004).size) = False := eq_false (Nat.not_lt.2 c19)
          try (have c19b3 := c19b2; simp only [ByteArray.size_append, sz_mk_, List.size_toArray, List.length_cons, List.length_nil, Nat.reduceAdd] at c19b3)
          have H' := am_ H
          clear H
          have p1001 : 0 ≤ (x8_1 : Int) := od_
          have q1001 : x8_1 < (l0.length : Int) := od_
          obtain ⟨ad1001, e1001, hx1001_0, hx1001_1⟩ := at_T86 HR0.out x8_1 p1001 q1001
          cases e1001
          replace hx1001_0 := kp_ HB hx1001_0
          replace hx1001_1 := kp_ HB hx1001_1
          replace p1001 := eq_true p1001
          replace q1001 := eq_true q1001
          try go_wp2_with (first | ((with_reducible refine gate_dst (N := 5) rfl ?_); refine box_event ?hg (N := 5) ?hd (cs := #[.string (⟨#[]⟩ : ByteArray), .string (⟨#[]⟩ : ByteArray)]) (t := 86) ?hr ?_; (case hd => rfl); (case hg => rfl); (case hr => first | (go_simp; done) | (go_simp; rfl)); intro gb1002 hg w20 hbox hb; have n0_ := am_ (below_step bl_ hb); have n1_ := am_ (hbox); have n2_ := am_ (gs_ hg : w.heap.size ≤ gb1002); have n3_ := n2_; clear HB; have HB := n0_; have BK1002 := n1_; have GW1002 := n2_; have GE1002 := n3_; clear n0_ n1_ n2_ n3_; clear hb hbox hg; have hcz21_0 := bc2_0 BK1002; have hcz21_1 := bc2_1 BK1002; have hfz21_0 := bf_ BK1002 0; have hfz21_1 := bf_ BK1002 1))
          have n0_ : Aside0 (((w20.setCell ⟨gb1002, 0, none⟩ (.string ((rd_T86 l0 x8_1).f0))).setCell ⟨gb1002, 1, none⟩ (.string ((rd_T86 l0 x8_1).f1))).heap[gb1002]? = some (.cells #[.string ((rd_T86 l0 x8_1).f0), .string ((rd_T86 l0 x8_1).f1)] 86 (0, 0))) := ⟨by (with_reducible repeat (first | refine blk_drewN ?_ _ | refine blk_drew ?_ | refine blk_alloc ?_ _)); refine blk_put (cs := #[.string ((rd_T86 l0 x8_1).f0), .string (⟨#[]⟩ : ByteArray)]) ?_ 1 _ rfl; (with_reducible repeat (first | refine blk_drewN ?_ _ | refine blk_drew ?_ | refine blk_alloc ?_ _)); refine blk_put (cs := #[.string (⟨#[]⟩ : ByteArray), .string (⟨#[]⟩ : ByteArray)]) ?_ 0 _ rfl; (with_reducible repeat (first | refine blk_drewN ?_ _ | refine blk_drew ?_ | refine blk_alloc ?_ _)); exact BK1002.out⟩
          have n1_ : Aside0 (Below w.heap.size w ((w20.setCell ⟨gb1002, 0, none⟩ (.string ((rd_T86 l0 x8_1).f0))).setCell ⟨gb1002, 1, none⟩ (.string ((rd_T86 l0 x8_1).f1)))) := ⟨bg_⟩
          (try clear BK1002)
          (try clear HB)
          generalize ((w20.setCell ⟨gb1002, 0, none⟩ (.string ((rd_T86 l0 x8_1).f0))).setCell ⟨gb1002, 1, none⟩ (.string ((rd_T86 l0 x8_1).f1))) = w22 at n0_ n1_ ⊢
          have BK1002 := n0_
          have HB := n1_
          clear n0_ n1_
          have n0_ := am_ (blk_drew BK1002.out)
          have n1_ := am_ (below_drew1 HB.out)
          clear BK1002
          clear HB
          have BK1002 := n0_
          have HB := n1_
          clear n0_ n1_
          refine start_ (n := 10) (S := fun w' => w'.cell? ⟨gb1002, 0, none⟩ = some (.string ((rd_T86 l0 x8_1).f0)) ∧ w'.cell? ⟨gb1002, 1, none⟩ = some (.string ((rd_T86 l0 x8_1).f1))) (ds := []) (bz 10 0) (by kernel_rfl) rfl rfl ⟨(blk_cell BK1002.out 0).trans rfl, (blk_cell BK1002.out 1).trans rfl⟩ (fun hHeld => ?_); refine with_tabW spec_l2Text.tab7 spec_l2Text.bits7 (fun HT_ HW_ => ?_)
          generalize w22.drew = w23 at BK1002 HB hHeld ⊢
          refine pz_ 0 17 1 ?_
          refine pz_ 1 18 3 ?_
          refine pz_ 4 21 19 ?_
          refine tz_ 2 19 23 ?_
          refine pz_ 3 20 31 ?_
          refine tz_ 5 22 63 ?_
          refine one_ (i := 6) (N := some 23) (bz 10 127) rfl rfl (one_of HT_.out (by kernel_rfl)) (by decide) (fun K hK => ?_)
          refine goes_ Try.func120 (by kernel_rfl) rfl #[.string ((rd_T86 l0 x8_1).f1)] (by rfl) rfl rfl ag_ ?_
          with_reducible refine (spec_l2Quoted.calls k1 ((rd_T86 l0 x8_1).f1) t1004 _ A17.out).mono ?_
          rintro e w24 ⟨rfl, hb⟩
          refine ⟨_, rfl, ?_⟩
          have n0_ := am_ (blk_below (g := gb1002) (vk_ BK1002) hb)
          have n1_ := am_ (below_step bg_ hb)
          clear BK1002
          clear HB
          have BK1002 := n0_
          have HB := n1_
          clear n0_ n1_
          (try clear hb)
          (try clear hb2)
          (try clear hk)
          (try clear hi)
          refine hK.out _ _ ⟨(blk_cell BK1002.out 0).trans rfl, (blk_cell BK1002.out 1).trans rfl⟩ (fun hHeld => ?_)
          clear hK K
          refine norm_ (a' := ?_) ?_ ?_
          rotate_left
          ·show Act.put _ (some 23) _ = _
           simp only [Act.put, List.setIfInBounds_toArray, List.set_cons_zero, List.set_cons_succ, i64_w, i32_w]
           rfl
          refine pz_ 7 24 255 ?_
          refine pz_ 8 25 511 ?_
          refine pz_ 9 3 1023 ?_
          refine done_ (done_of HT_.out (by kernel_rfl)) ?_
          try go_wp2
          go_roundg k1
          case measure => have := HK1.out; omega
          case rel => exact ⟨(x3_1 ++ ((((rd_T86 l0 x8_1).f0) ++ (⟨#[61]⟩ : ByteArray)) ++ t1004)), (wrap64 (x8_1 + 1)), rs_, rs_, H', ⟨by have := HK1.out; omega⟩, ⟨bg_⟩⟩
         ·rw [if_neg c19] at H
          exact absurd H (by simp)
        ·rw [if_neg c18] at H
         exact absurd H (by simp)
       ·rw [if_neg c16] at H
        exact absurd H (by simp)
     ·rw [if_neg c4] at H
      exact absurd H (by simp)
    ·rw [if_neg c3] at H
     exact absurd H (by simp)
   ·rw [if_neg c2] at H
    have c2b0 : decide (x8_1 < (l0.length : Int)) = false := decide_eq_false c2
    clear c2
    by_cases c25 : x3_1.size + 1 ≤ 9223372036854775807
    ·rw [if_pos c25] at H
     have c25b0 := eq_true c25
     have c25b1 : decide (x3_1.size + 1 ≤ 9223372036854775807) = true := decide_eq_true c25
     try have c25b2 : (9223372036854775807 < x3_1.size + 1) = False := eq_false (Nat.not_lt.2 c25)
     obtain rfl := Option.some.inj H
     go_wp2
     go_ret
     exact ⟨rf_, bl_⟩
    ·rw [if_neg c25] at H
     exact absurd H (by simp)

/-! ### spec_LabelsText: function 26 -/
def spec_LabelsText.f (k : Nat) (l0 : List (S86)) : Option (ByteArray) := (spec_GoodLabels.f k l0).bind fun t1001 => (if t1001 = true then ((spec_l2Text.f k l0).bind fun t1002 => (some t1002)) else (some (⟨#[]⟩ : ByteArray)))
theorem spec_LabelsText.mono : ∀ a0 k, LeO (spec_LabelsText.f k a0) (spec_LabelsText.f (k + 1) a0) := by
 intro a0 k
 unfold spec_LabelsText.f
 repeat' first
   | with_reducible first | exact spec_GoodLabels.mono _ _ | exact spec_l2Text.mono _ _ | exact LeO.refl _ | exact LeO.none _ | refine LeO.ite ?_ ?_ | refine LeO.bind ?_ (fun _ => ?_)
   | exact spec_GoodLabels.mono _ _
   | exact spec_l2Text.mono _ _
   | exact LeO.none _
   | refine LeO.ite ?_ ?_
   | refine LeO.bind ?_ (fun _ => ?_)
set_option maxHeartbeats 8000000 in
set_option maxRecDepth 100000 in
theorem spec_LabelsText.calls (k : Nat) (A0 : Option Addr) (c0 : Nat) (l0 : List (S86)) (r : ByteArray) (w : World) (hr0 : Kd.C k86 w A0 l0.length l0) (hc0 : l0.length ≤ c0) (h : spec_LabelsText.f k l0 = some r) :
  Calls Try.prog 26 #[.slice A0 l0.length c0] w fun e w' => e = .returned (.string r) ∧ Below w.heap.size w w' := by
 have HR0 := am_ hr0
 have HC0 := am_ hc0
 clear hr0 hc0
 have HB := am_ (Below.refl w.heap.size w)
 have H : ((spec_GoodLabels.f k l0).bind fun t1001 => (if t1001 = true then ((spec_l2Text.f k l0).bind fun t1002 => (some t1002)) else (some (⟨#[]⟩ : ByteArray)))) = some r := h
 clear h
 replace H := Option.bind_eq_some_iff.mp H
 obtain ⟨t1001, A20, H⟩ := H
 replace H : (if t1001 = true then ((spec_l2Text.f k l0).bind fun t1002 => (some t1002)) else (some (⟨#[]⟩ : ByteArray))) = some r := H
 have A2 := am_ A20
 clear A20
 by_cases c3 : t1001 = true
 ·subst c3
  have H1 : ((spec_l2Text.f k l0).bind fun t1002 => (some t1002)) = some r := by rw [if_pos rfl] at H; exact H
  clear H
  have H := H1
  clear H1
  replace H := Option.bind_eq_some_iff.mp H
  obtain ⟨t1002, A40, H⟩ := H
  replace H : (some t1002) = some r := H
  have A4 := am_ A40
  clear A40
  obtain rfl := Option.some.inj H
  go_enter Try.func26, Try.ntmps26
  go_wp2_with (first | ((with_reducible refine gate_callee (f := 64) rfl ?_); refine goesL_ (some 4) rfl rfl Try.func64 (by kernel_rfl) rfl #[.slice A0 l0.length c0] rfl ag_ ?_; (with_reducible refine (spec_GoodLabels.calls k _ _ l0 true _ ?side1 ?side2 A2.out).mono ?_); (case side1 => repeat (first | exact HR0.out | (with_reducible refine Kd.C_alloc ?_ _) | (with_reducible refine Kd.C_drewN ?_ _) | (with_reducible refine Kd.C_drew ?_))); (case side2 => exact HC0.out); rintro e w5 ⟨rfl, hb⟩; refine ⟨_, rfl, ?_⟩; have n0_ := am_ (below_step bl_ hb); clear HB; have HB := n0_; clear n0_; (try clear hb); (try clear hb2); (try clear hk); (try clear hi)) | ((with_reducible refine gate_callee (f := 74) rfl ?_); refine goesL_ (some 7) rfl rfl Try.func74 (by kernel_rfl) rfl #[.slice A0 l0.length c0] rfl ag_ ?_; (with_reducible refine (spec_l2Text.calls k _ _ l0 t1002 _ ?side1 ?side2 A4.out).mono ?_); (case side1 => exact cc_ (Kd.C_below HR0.out HB.out)); (case side2 => exact HC0.out); rintro e w6 ⟨rfl, hb⟩; refine ⟨_, rfl, ?_⟩; have n0_ := am_ (below_step bl_ hb); clear HB; have HB := n0_; clear n0_; (try clear hb); (try clear hb2); (try clear hk); (try clear hi)))
  go_ret
  exact ⟨rf_, bl_⟩
 ·replace c3 := Bool.eq_false_iff.mpr c3
  subst c3
  have H1 : (some (⟨#[]⟩ : ByteArray)) = some r := by rw [if_neg (show ¬ (false = true) by decide)] at H; exact H
  clear H
  have H := H1
  clear H1
  obtain rfl := Option.some.inj H
  go_enter Try.func26, Try.ntmps26
  go_wp2_with (first | ((with_reducible refine gate_callee (f := 64) rfl ?_); refine goesL_ (some 4) rfl rfl Try.func64 (by kernel_rfl) rfl #[.slice A0 l0.length c0] rfl ag_ ?_; (with_reducible refine (spec_GoodLabels.calls k _ _ l0 false _ ?side1 ?side2 A2.out).mono ?_); (case side1 => repeat (first | exact HR0.out | (with_reducible refine Kd.C_alloc ?_ _) | (with_reducible refine Kd.C_drewN ?_ _) | (with_reducible refine Kd.C_drew ?_))); (case side2 => exact HC0.out); rintro e w7 ⟨rfl, hb⟩; refine ⟨_, rfl, ?_⟩; have n0_ := am_ (below_step bl_ hb); clear HB; have HB := n0_; clear n0_; (try clear hb); (try clear hb2); (try clear hk); (try clear hi)))
  go_ret
  exact ⟨rf_, bl_⟩

end Go.Proofs.Ythgeohdpjedhnaa.Pr
