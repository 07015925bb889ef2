/- Functions of the given program as plain Lean functions, and that the machine's calls come to them; written by a program of this session; no condition but those that each theorem states. -/
import Derived.Test.YtknlgignjbghkaaDoorPrx0
import Derived.Test.YtknlgignjbghkaaDoorPrxg4a3cbn1
import Derived.Test.YtknlgignjbghkaaDoorPrxgd0f04n1
namespace Go.Proofs.YtknlgignjbghkaaDoor.Pr
open Go.RowKit Go.Proofs.YtknlgignjbghkaaDoorW.PrintWords Go.Proofs.YtknlgignjbghkaaDoorW.PrintLast Go.Proofs.YtknlgignjbghkaaDoorW.PrintMore
attribute [local go_sem] max2_int min2_int max_two min_two max_three min_three max_four min_four   -- for this text's walks alone
set_option linter.unusedVariables false
set_option linter.unusedSimpArgs false

/-! ### laws_szMatcher: function 20 -/
def laws_szMatcher.f (a0_0 : ByteArray) (a0_1 : Int) (a0_2 : ByteArray) (a1 : Int) : Option (Int) := if (wrap64 (a1 - (a0_0.size : Int))) < 0 then (some (-1)) else (if (wrap64 ((wrap64 (a1 - (a0_0.size : Int))) - (a0_2.size : Int))) < 0 then (some (-1)) else (some (wrap64 ((wrap64 (a1 - (a0_0.size : Int))) - (a0_2.size : Int)))))
set_option maxHeartbeats 8000000 in
set_option maxRecDepth 100000 in
theorem laws_szMatcher.calls (a0_0 : ByteArray) (a0_1 : Int) (a0_2 : ByteArray) (a1 : Int) (r : Int) (w : World) (h : laws_szMatcher.f a0_0 a0_1 a0_2 a1 = some r) :
  Calls Tryd.prog 20 #[.agg #[.string a0_0, .int .i64 a0_1, .string a0_2], .int .i64 a1] w fun e w' => e = .returned (.int .i64 r) ∧ Below w.heap.size w w' := by
 have hu44 := Tryd.underlying44
 have HB := am_ (Below.refl w.heap.size w)
 have H : (if (wrap64 (a1 - (a0_0.size : Int))) < 0 then (some (-1)) else (if (wrap64 ((wrap64 (a1 - (a0_0.size : Int))) - (a0_2.size : Int))) < 0 then (some (-1)) else (some (wrap64 ((wrap64 (a1 - (a0_0.size : Int))) - (a0_2.size : Int)))))) = some r := h
 clear h
 by_cases c3 : (wrap64 (a1 - (a0_0.size : Int))) < 0
 ·rw [if_pos c3] at H
  have c3b0 : decide ((wrap64 (a1 - (a0_0.size : Int))) < 0) = true := decide_eq_true c3
  clear c3
  obtain rfl := Option.some.inj H
  go_enter Tryd.func20, Tryd.ntmps20
  go_wp2_with (first | ((with_reducible refine gate_dst (N := 2) rfl ?_); refine bx_ 2 #[.string a0_0, .int .i64 a0_1, .string a0_2] 44 ?_; intro gb1001 hg w4 hbox hb; have BK1001 := am_ (hbox); have GW1001 := am_ (gs_ hg : w.heap.size ≤ gb1001); replace HB := am_ (below_step bl_ hb); have GE1001 := GW1001; clear hb hbox hg; have hcz5_0 := bc3_0 BK1001; have hcz5_1 := bc3_1 BK1001; have hcz5_2 := bc3_2 BK1001; have hfz5_0 := bf_ BK1001 0; have hfz5_1 := bf_ BK1001 1; have hfz5_2 := bf_ BK1001 2))
  go_ret
  exact ⟨rf_, bg_⟩
 ·rw [if_neg c3] at H
  have c3b0 : decide ((wrap64 (a1 - (a0_0.size : Int))) < 0) = false := decide_eq_false c3
  clear c3
  by_cases c6 : (wrap64 ((wrap64 (a1 - (a0_0.size : Int))) - (a0_2.size : Int))) < 0
  ·rw [if_pos c6] at H
   have c6b0 : decide ((wrap64 ((wrap64 (a1 - (a0_0.size : Int))) - (a0_2.size : Int))) < 0) = true := decide_eq_true c6
   clear c6
   obtain rfl := Option.some.inj H
   go_enter Tryd.func20, Tryd.ntmps20
   go_wp2_with (first | ((with_reducible refine gate_dst (N := 2) rfl ?_); refine bx_ 2 #[.string a0_0, .int .i64 a0_1, .string a0_2] 44 ?_; intro gb1001 hg w7 hbox hb; have BK1001 := am_ (hbox); have GW1001 := am_ (gs_ hg : w.heap.size ≤ gb1001); replace HB := am_ (below_step bl_ hb); have GE1001 := GW1001; clear hb hbox hg; have hcz8_0 := bc3_0 BK1001; have hcz8_1 := bc3_1 BK1001; have hcz8_2 := bc3_2 BK1001; have hfz8_0 := bf_ BK1001 0; have hfz8_1 := bf_ BK1001 1; have hfz8_2 := bf_ BK1001 2))
   go_ret
   exact ⟨rf_, bg_⟩
  ·rw [if_neg c6] at H
   have c6b0 : decide ((wrap64 ((wrap64 (a1 - (a0_0.size : Int))) - (a0_2.size : Int))) < 0) = false := decide_eq_false c6
   clear c6
   obtain rfl := Option.some.inj H
   go_enter Tryd.func20, Tryd.ntmps20
   go_wp2_with (first | ((with_reducible refine gate_dst (N := 2) rfl ?_); refine bx_ 2 #[.string a0_0, .int .i64 a0_1, .string a0_2] 44 ?_; intro gb1001 hg w9 hbox hb; have BK1001 := am_ (hbox); have GW1001 := am_ (gs_ hg : w.heap.size ≤ gb1001); replace HB := am_ (below_step bl_ hb); have GE1001 := GW1001; clear hb hbox hg; have hcz10_0 := bc3_0 BK1001; have hcz10_1 := bc3_1 BK1001; have hcz10_2 := bc3_2 BK1001; have hfz10_0 := bf_ BK1001 0; have hfz10_1 := bf_ BK1001 1; have hfz10_2 := bf_ BK1001 2))
   go_ret
   exact ⟨rf_, bg_⟩

/-! ### laws_szMatcherS: function 6 -/
def laws_szMatcherS.l0 : Nat → List (S44) → Int → Int → Option (Int)
 | 0, _, _, _ => none
 | k + 1, x0, x1, x5 => if x5 < (x0.length : Int) then (if 0 ≤ x5 then ((laws_szMatcher.f ((rd_T44 x0 x5).f0) ((rd_T44 x0 x5).f1) ((rd_T44 x0 x5).f2) x1).bind fun t1002 => (if t1002 < 0 then (some (-1)) else (laws_szMatcherS.l0 k x0 t1002 (wrap64 (x5 + 1))))) else (none)) else (some x1)
def laws_szMatcherS.f (k : Nat) (l0 : List (S44)) (a1 : Int) : Option (Int) := if (wrap64 (a1 - (l0.length : Int))) < 0 then (some (-1)) else (laws_szMatcherS.l0 k l0 (wrap64 (a1 - (l0.length : Int))) 0)
theorem laws_szMatcherS.mono_l : ∀ k, (∀ y0 y1 y2, LeO (laws_szMatcherS.l0 k y0 y1 y2) (laws_szMatcherS.l0 (k + 1) y0 y1 y2))
 | 0 => fun _ _ _ r h => by simp [laws_szMatcherS.l0] at h
 | k + 1 => by
  have ih0 := laws_szMatcherS.mono_l k
  ·intro y0 y1 y2
   unfold laws_szMatcherS.l0
   repeat' first
   | with_reducible first | exact ih0 _ _ _ | exact LeO.refl _ | exact LeO.none _ | refine LeO.ite ?_ ?_ | refine LeO.bind ?_ (fun _ => ?_)
   | exact ih0 _ _ _
   | exact LeO.none _
   | refine LeO.ite ?_ ?_
   | refine LeO.bind ?_ (fun _ => ?_)
theorem laws_szMatcherS.mono : ∀ a0 a1 k, LeO (laws_szMatcherS.f k a0 a1) (laws_szMatcherS.f (k + 1) a0 a1) := by
 intro a0 a1 k
 have ih0 := laws_szMatcherS.mono_l k
 unfold laws_szMatcherS.f
 repeat' first
   | with_reducible first | exact ih0 _ _ _ | exact LeO.refl _ | exact LeO.none _ | refine LeO.ite ?_ ?_ | refine LeO.bind ?_ (fun _ => ?_)
   | exact ih0 _ _ _
   | exact LeO.none _
   | refine LeO.ite ?_ ?_
   | refine LeO.bind ?_ (fun _ => ?_)
set_option maxHeartbeats 8000000 in
set_option maxRecDepth 100000 in
theorem laws_szMatcherS.calls (k : Nat) (A0 : Option Addr) (c0 : Nat) (l0 : List (S44)) (a1 : Int) (r : Int) (w : World) (hr0 : Kd.C k44 w A0 l0.length l0) (hc0 : l0.length ≤ c0) (h : laws_szMatcherS.f k l0 a1 = some r) :
  Calls Tryd.prog 6 #[.slice A0 l0.length c0, .int .i64 a1] w fun e w' => e = .returned (.int .i64 r) ∧ Below w.heap.size w w' := by
 have hu44 := Tryd.underlying44
 have HR0 := am_ hr0
 have HC0 := am_ hc0
 clear hr0 hc0
 have HB := am_ (Below.refl w.heap.size w)
 have H : (if (wrap64 (a1 - (l0.length : Int))) < 0 then (some (-1)) else (laws_szMatcherS.l0 k l0 (wrap64 (a1 - (l0.length : Int))) 0)) = some r := h
 clear h
 by_cases c3 : (wrap64 (a1 - (l0.length : Int))) < 0
 ·rw [if_pos c3] at H
  have c3b0 : decide ((wrap64 (a1 - (l0.length : Int))) < 0) = true := decide_eq_true c3
  clear c3
  obtain rfl := Option.some.inj H
  go_enter Tryd.func6, Tryd.ntmps6
  go_wp2
  go_ret
  exact ⟨rf_, bl_⟩
 ·rw [if_neg c3] at H
  have c3b0 : decide ((wrap64 (a1 - (l0.length : Int))) < 0) = false := decide_eq_false c3
  clear c3
  have H' := am_ H
  clear H
  go_enter Tryd.func6, Tryd.ntmps6
  go_wp2
  go_loopg [1, 5] k (fun kq v1 v5 w' => ∃ (x1_1 : Int) (x5_1 : Int), v1 = .int .i64 x1_1 ∧ v5 = .int .i64 x5_1 ∧ Aside0 (laws_szMatcherS.l0 kq l0 x1_1 x5_1 = some r) ∧ Aside0 (kq ≤ k) ∧ Aside0 (Below w.heap.size w w'))
  case atStart => exact ⟨(wrap64 (a1 - (l0.length : Int))), (0), rs_, rs_, H', ⟨Nat.le_refl _⟩, ⟨bl_⟩⟩
  case round =>
   clear H'
   try clear p2
   try clear c3
   try clear c3b0
   obtain ⟨x1_1, x5_1, rfl, rfl, HA, HK1, HB⟩ := hrel
   cases gk with
   | zero => exact absurd HA.out (by simp [laws_szMatcherS.l0])
   | succ k1 =>
    have H := HA.out
    clear HA
    simp only [laws_szMatcherS.l0] at H
    by_cases c4 : x5_1 < (l0.length : Int)
    ·rw [if_pos c4] at H
     have c4b0 : decide (x5_1 < (l0.length : Int)) = true := decide_eq_true c4
     clear c4
     by_cases c5 : 0 ≤ x5_1
     ·rw [if_pos c5] at H
      have c5b0 : decide (0 ≤ x5_1) = true := decide_eq_true c5
      clear c5
      replace H := Option.bind_eq_some_iff.mp H
      obtain ⟨t1002, A60, H⟩ := H
      replace H : (if t1002 < 0 then (some (-1)) else (laws_szMatcherS.l0 k1 l0 t1002 (wrap64 (x5_1 + 1)))) = some r := H
      have A6 := am_ A60
      clear A60
      by_cases c7 : t1002 < 0
      ·rw [if_pos c7] at H
       have c7b0 : decide (t1002 < 0) = true := decide_eq_true c7
       clear c7
       obtain rfl := Option.some.inj H
       have p1001 : 0 ≤ (x5_1 : Int) := od_
       have q1001 : x5_1 < (l0.length : Int) := od_
       obtain ⟨ad1001, e1001, hx1001_0, hx1001_1, hx1001_2⟩ := at_T44 HR0.out x5_1 p1001 q1001
       cases e1001
       replace hx1001_0 := kp_ HB hx1001_0
       replace hx1001_1 := kp_ HB hx1001_1
       replace hx1001_2 := kp_ HB hx1001_2
       replace p1001 := eq_true p1001
       replace q1001 := eq_true q1001
       go_wp2_with (first | ((with_reducible refine gate_callee (f := 20) rfl ?_); refine goesL_ (some 23) rfl rfl Tryd.func20 (by kernel_rfl) rfl #[.agg #[.string ((rd_T44 l0 x5_1).f0), .int .i64 ((rd_T44 l0 x5_1).f1), .string ((rd_T44 l0 x5_1).f2)], .int .i64 x1_1] rfl ag_ ?_; (with_reducible refine (laws_szMatcher.calls ((rd_T44 l0 x5_1).f0) ((rd_T44 l0 x5_1).f1) ((rd_T44 l0 x5_1).f2) x1_1 t1002 _ A6.out).mono ?_); rintro e w8 ⟨rfl, hb⟩; refine ⟨_, rfl, ?_⟩; replace HB := am_ (below_step bl_ hb); (try clear hb); (try clear hb2); (try clear hk); (try clear hi)))
       go_ret
       exact ⟨rf_, bl_⟩
      ·rw [if_neg c7] at H
       have c7b0 : decide (t1002 < 0) = false := decide_eq_false c7
       clear c7
       have H' := am_ H
       clear H
       have p1001 : 0 ≤ (x5_1 : Int) := od_
       have q1001 : x5_1 < (l0.length : Int) := od_
       obtain ⟨ad1001, e1001, hx1001_0, hx1001_1, hx1001_2⟩ := at_T44 HR0.out x5_1 p1001 q1001
       cases e1001
       replace hx1001_0 := kp_ HB hx1001_0
       replace hx1001_1 := kp_ HB hx1001_1
       replace hx1001_2 := kp_ HB hx1001_2
       replace p1001 := eq_true p1001
       replace q1001 := eq_true q1001
       go_wp2_with (first | ((with_reducible refine gate_callee (f := 20) rfl ?_); refine goesL_ (some 23) rfl rfl Tryd.func20 (by kernel_rfl) rfl #[.agg #[.string ((rd_T44 l0 x5_1).f0), .int .i64 ((rd_T44 l0 x5_1).f1), .string ((rd_T44 l0 x5_1).f2)], .int .i64 x1_1] rfl ag_ ?_; (with_reducible refine (laws_szMatcher.calls ((rd_T44 l0 x5_1).f0) ((rd_T44 l0 x5_1).f1) ((rd_T44 l0 x5_1).f2) x1_1 t1002 _ A6.out).mono ?_); rintro e w9 ⟨rfl, hb⟩; refine ⟨_, rfl, ?_⟩; replace HB := am_ (below_step bl_ hb); (try clear hb); (try clear hb2); (try clear hk); (try clear hi)))
       go_roundg k1
       case measure => have := HK1.out; omega
       case rel => exact ⟨(t1002), (wrap64 (x5_1 + 1)), rs_, rs_, H', ⟨by have := HK1.out; omega⟩, ⟨bl_⟩⟩
     ·rw [if_neg c5] at H
      exact absurd H (by simp)
    ·rw [if_neg c4] at H
     have c4b0 : decide (x5_1 < (l0.length : Int)) = false := decide_eq_false c4
     clear c4
     obtain rfl := Option.some.inj H
     go_wp2
     go_ret
     exact ⟨rf_, bl_⟩

/-! ### spec_l2MatchersText: function 22 -/
def spec_l2MatchersText.l0 : Nat → ByteArray → List (S46) → Int → Int → Option (ByteArray)
 | 0, _, _, _, _ => none
 | k + 1, x3, x6, x7, x8 => if x8 < x7 then (if 0 ≤ x8 then (if x8 < (x6.length : Int) then (if x8 > 0 then (if x3.size + 1 ≤ 9223372036854775807 then ((spec_l2Ops.f).bind fun t1003 => (if 0 ≤ ((rd_T46 x6 x8).f1) then (if ((rd_T46 x6 x8).f1) < (t1003.length : Int) then (if ((rd_T46 x6 x8).f0).size + (rdOf ByteArray.empty t1003 ((rd_T46 x6 x8).f1)).size ≤ 9223372036854775807 then ((spec_l2Quoted.f k ((rd_T46 x6 x8).f2)).bind fun t1007 => (if (((rd_T46 x6 x8).f0) ++ (rdOf ByteArray.empty t1003 ((rd_T46 x6 x8).f1))).size + t1007.size ≤ 9223372036854775807 then (if (x3 ++ (⟨#[44]⟩ : ByteArray)).size + ((((rd_T46 x6 x8).f0) ++ (rdOf ByteArray.empty t1003 ((rd_T46 x6 x8).f1))) ++ t1007).size ≤ 9223372036854775807 then (spec_l2MatchersText.l0 k ((x3 ++ (⟨#[44]⟩ : ByteArray)) ++ ((((rd_T46 x6 x8).f0) ++ (rdOf ByteArray.empty t1003 ((rd_T46 x6 x8).f1))) ++ t1007)) x6 x7 (wrap64 (x8 + 1))) else (none)) else (none))) else (none)) else (none)) else (none))) else (none)) else ((spec_l2Ops.f).bind fun t1008 => (if 0 ≤ ((rd_T46 x6 x8).f1) then (if ((rd_T46 x6 x8).f1) < (t1008.length : Int) then (if ((rd_T46 x6 x8).f0).size + (rdOf ByteArray.empty t1008 ((rd_T46 x6 x8).f1)).size ≤ 9223372036854775807 then ((spec_l2Quoted.f k ((rd_T46 x6 x8).f2)).bind fun t1012 => (if (((rd_T46 x6 x8).f0) ++ (rdOf ByteArray.empty t1008 ((rd_T46 x6 x8).f1))).size + t1012.size ≤ 9223372036854775807 then (if x3.size + ((((rd_T46 x6 x8).f0) ++ (rdOf ByteArray.empty t1008 ((rd_T46 x6 x8).f1))) ++ t1012).size ≤ 9223372036854775807 then (spec_l2MatchersText.l0 k (x3 ++ ((((rd_T46 x6 x8).f0) ++ (rdOf ByteArray.empty t1008 ((rd_T46 x6 x8).f1))) ++ t1012)) x6 x7 (wrap64 (x8 + 1))) else (none)) else (none))) else (none)) else (none)) else (none)))) else (none)) else (none)) else (if x3.size + 1 ≤ 9223372036854775807 then (some (x3 ++ (⟨#[125]⟩ : ByteArray))) else (none))
def spec_l2MatchersText.f (k : Nat) (l0 : List (S46)) : Option (ByteArray) := spec_l2MatchersText.l0 k (⟨#[123]⟩ : ByteArray) l0 (l0.length : Int) 0
theorem spec_l2MatchersText.mono_l : ∀ k, (∀ y0 y1 y2 y3, LeO (spec_l2MatchersText.l0 k y0 y1 y2 y3) (spec_l2MatchersText.l0 (k + 1) y0 y1 y2 y3))
 | 0 => fun _ _ _ _ r h => by simp [spec_l2MatchersText.l0] at h
 | k + 1 => by
  have ih0 := spec_l2MatchersText.mono_l k
  ·intro y0 y1 y2 y3
   unfold spec_l2MatchersText.l0
   repeat' first
   | with_reducible first | exact ih0 _ _ _ _ | exact spec_l2Quoted.mono _ _ | exact LeO.refl _ | exact LeO.none _ | refine LeO.ite ?_ ?_ | refine LeO.bind ?_ (fun _ => ?_)
   | exact ih0 _ _ _ _
   | exact spec_l2Quoted.mono _ _
   | exact LeO.none _
   | refine LeO.ite ?_ ?_
   | refine LeO.bind ?_ (fun _ => ?_)
theorem spec_l2MatchersText.mono : ∀ a0 k, LeO (spec_l2MatchersText.f k a0) (spec_l2MatchersText.f (k + 1) a0) := by
 intro a0 k
 have ih0 := spec_l2MatchersText.mono_l k
 unfold spec_l2MatchersText.f
 repeat' first
   | with_reducible first | exact ih0 _ _ _ _ | exact spec_l2Quoted.mono _ _ | exact LeO.refl _ | exact LeO.none _ | refine LeO.ite ?_ ?_ | refine LeO.bind ?_ (fun _ => ?_)
   | exact ih0 _ _ _ _
   | exact spec_l2Quoted.mono _ _
   | exact LeO.none _
   | refine LeO.ite ?_ ?_
   | refine LeO.bind ?_ (fun _ => ?_)
def spec_l2MatchersText.T7 : Bool × List (List Nat × List Nat) := (true, [([], []), ([], []), ([1], [1]), ([], []), ([], []), ([4], [4]), ([3, 5], [3, 5]), ([6], [6]), ([2, 7], [2, 7]), ([], []), ([9], [9]), ([10, 3], [10]), ([8, 11], [8, 11]), ([0, 12], [0, 12]), ([13, 11, 0, 1, 2, 3, 4, 5, 6, 7, 8, 9, 10, 11, 12, 13], [0, 13])])
def spec_l2MatchersText.B7 : List Nat := [0, 0, 2, 0, 0, 16, 56, 120, 254, 0, 512, 1544, 4094, 8191, 16383]
theorem spec_l2MatchersText.tab7 : rtab .any (opsOf Tryd.f22 7) = spec_l2MatchersText.T7 := by kernel_rfl
theorem spec_l2MatchersText.bits7 : waitsOk spec_l2MatchersText.T7.2 spec_l2MatchersText.B7 = true := by kernel_rfl
set_option maxHeartbeats 8000000 in
set_option maxRecDepth 100000 in
theorem spec_l2MatchersText.calls (k : Nat) (A0 : Option Addr) (c0 : Nat) (l0 : List (S46)) (r : ByteArray) (w : World) (hr0 : Kd.C k46 w A0 l0.length l0) (hc0 : l0.length ≤ c0) (h : spec_l2MatchersText.f k l0 = some r) :
  Calls Tryd.prog 22 #[.slice A0 l0.length c0] w fun e w' => e = .returned (.string r) ∧ Below w.heap.size w w' := by
 have hu46 := Tryd.underlying46
 have HR0 := am_ hr0
 have HC0 := am_ hc0
 clear hr0 hc0
 have HB := am_ (Below.refl w.heap.size w)
 have H : (spec_l2MatchersText.l0 k (⟨#[123]⟩ : ByteArray) l0 (l0.length : Int) 0) = some r := h
 clear h
 have H' := am_ H
 clear H
 go_enter Tryd.func22, Tryd.ntmps22
 go_wp2
 go_loopg [3, 8] k (fun kq v3 v8 w' => ∃ (x3_1 : ByteArray) (x8_1 : Int), v3 = .string x3_1 ∧ v8 = .int .i64 x8_1 ∧ Aside0 (spec_l2MatchersText.l0 kq x3_1 l0 (l0.length : Int) x8_1 = some r) ∧ Aside0 (kq ≤ k) ∧ Aside0 (Below w.heap.size w w'))
 case atStart => exact ⟨((⟨#[123]⟩ : ByteArray)), (0), rs_, rs_, H', ⟨Nat.le_refl _⟩, ⟨bl_⟩⟩
 case round =>
  clear H'
  obtain ⟨x3_1, x8_1, rfl, rfl, HA, HK1, HB⟩ := hrel
  cases gk with
  | zero => exact absurd HA.out (by simp [spec_l2MatchersText.l0])
  | succ k1 =>
   have H := HA.out
   clear HA
   simp only [spec_l2MatchersText.l0] at H
   by_cases c2 : x8_1 < (l0.length : Int)
   ·rw [if_pos c2] at H
    have c2b0 : decide (x8_1 < (l0.length : Int)) = true := decide_eq_true c2
    clear c2
    by_cases c3 : 0 ≤ x8_1
    ·rw [if_pos c3] at H
     have c3b0 : decide (0 ≤ x8_1) = true := decide_eq_true c3
     clear c3
     by_cases c4 : x8_1 < (l0.length : Int)
     ·rw [if_pos c4] at H
      have c4b0 : decide (x8_1 < (l0.length : Int)) = true := decide_eq_true c4
      clear c4
      by_cases c5 : x8_1 > 0
      ·rw [if_pos c5] at H
       have c5b0 : decide (0 < x8_1) = true := decide_eq_true c5
       clear c5
       by_cases c6 : x3_1.size + 1 ≤ 9223372036854775807
       ·rw [if_pos c6] at H
        have c6b0 := eq_true c6
        have c6b1 : decide (x3_1.size + 1 ≤ 9223372036854775807) = true := decide_eq_true c6
        try have c6b2 : (9223372036854775807 < x3_1.size + 1) = False := eq_false (Nat.not_lt.2 c6)
        replace H := Option.bind_eq_some_iff.mp H
        obtain ⟨t1003, A70, H⟩ := H
        replace H : (if 0 ≤ ((rd_T46 l0 x8_1).f1) then (if ((rd_T46 l0 x8_1).f1) < (t1003.length : Int) then (if ((rd_T46 l0 x8_1).f0).size + (rdOf ByteArray.empty t1003 ((rd_T46 l0 x8_1).f1)).size ≤ 9223372036854775807 then ((spec_l2Quoted.f k1 ((rd_T46 l0 x8_1).f2)).bind fun t1007 => (if (((rd_T46 l0 x8_1).f0) ++ (rdOf ByteArray.empty t1003 ((rd_T46 l0 x8_1).f1))).size + t1007.size ≤ 9223372036854775807 then (if (x3_1 ++ (⟨#[44]⟩ : ByteArray)).size + ((((rd_T46 l0 x8_1).f0) ++ (rdOf ByteArray.empty t1003 ((rd_T46 l0 x8_1).f1))) ++ t1007).size ≤ 9223372036854775807 then (spec_l2MatchersText.l0 k1 ((x3_1 ++ (⟨#[44]⟩ : ByteArray)) ++ ((((rd_T46 l0 x8_1).f0) ++ (rdOf ByteArray.empty t1003 ((rd_T46 l0 x8_1).f1))) ++ t1007)) l0 (l0.length : Int) (wrap64 (x8_1 + 1))) else (none)) else (none))) else (none)) else (none)) else (none)) = some r := H
        have A7 := am_ A70
        clear A70
        by_cases c8 : 0 ≤ ((rd_T46 l0 x8_1).f1)
        ·rw [if_pos c8] at H
         have c8b0 : decide (0 ≤ ((rd_T46 l0 x8_1).f1)) = true := decide_eq_true c8
         clear c8
         by_cases c9 : ((rd_T46 l0 x8_1).f1) < (t1003.length : Int)
         ·rw [if_pos c9] at H
          have c9b0 : decide (((rd_T46 l0 x8_1).f1) < (t1003.length : Int)) = true := decide_eq_true c9
          clear c9
          by_cases c10 : ((rd_T46 l0 x8_1).f0).size + (rdOf ByteArray.empty t1003 ((rd_T46 l0 x8_1).f1)).size ≤ 9223372036854775807
          ·rw [if_pos c10] at H
           have c10b0 := eq_true c10
           have c10b1 : decide (((rd_T46 l0 x8_1).f0).size + (rdOf ByteArray.empty t1003 ((rd_T46 l0 x8_1).f1)).size ≤ 9223372036854775807) = true := decide_eq_true c10
           try have c10b2 : (9223372036854775807 < ((rd_T46 l0 x8_1).f0).size + (rdOf ByteArray.empty t1003 ((rd_T46 l0 x8_1).f1)).size) = False := eq_false (Nat.not_lt.2 c10)
           replace H := Option.bind_eq_some_iff.mp H
           obtain ⟨t1007, A110, H⟩ := H
           replace H : (if (((rd_T46 l0 x8_1).f0) ++ (rdOf ByteArray.empty t1003 ((rd_T46 l0 x8_1).f1))).size + t1007.size ≤ 9223372036854775807 then (if (x3_1 ++ (⟨#[44]⟩ : ByteArray)).size + ((((rd_T46 l0 x8_1).f0) ++ (rdOf ByteArray.empty t1003 ((rd_T46 l0 x8_1).f1))) ++ t1007).size ≤ 9223372036854775807 then (spec_l2MatchersText.l0 k1 ((x3_1 ++ (⟨#[44]⟩ : ByteArray)) ++ ((((rd_T46 l0 x8_1).f0) ++ (rdOf ByteArray.empty t1003 ((rd_T46 l0 x8_1).f1))) ++ t1007)) l0 (l0.length : Int) (wrap64 (x8_1 + 1))) else (none)) else (none)) = some r := H
           have A11 := am_ A110
           clear A110
           by_cases c12 : (((rd_T46 l0 x8_1).f0) ++ (rdOf ByteArray.empty t1003 ((rd_T46 l0 x8_1).f1))).size + t1007.size ≤ 9223372036854775807
           ·rw [if_pos c12] at H
            have c12b0 := eq_true c12
            have c12b1 : decide ((((rd_T46 l0 x8_1).f0) ++ (rdOf ByteArray.empty t1003 ((rd_T46 l0 x8_1).f1))).size + t1007.size ≤ 9223372036854775807) = true := decide_eq_true c12
            try have c12b2 : (9223372036854775807 < (((rd_T46 l0 x8_1).f0) ++ (rdOf ByteArray.empty t1003 ((rd_T46 l0 x8_1).f1))).size + t1007.size) = False := eq_false (Nat.not_lt.2 c12)
            try (have c12b3 := c12b2; simp only [ByteArray.size_append, sz_mk_, List.size_toArray, List.length_cons, List.length_nil, Nat.reduceAdd] at c12b3)
            by_cases c13 : (x3_1 ++ (⟨#[44]⟩ : ByteArray)).size + ((((rd_T46 l0 x8_1).f0) ++ (rdOf ByteArray.empty t1003 ((rd_T46 l0 x8_1).f1))) ++ t1007).size ≤ 9223372036854775807
            ·rw [if_pos c13] at H
             have c13b0 := eq_true c13
             have c13b1 : decide ((x3_1 ++ (⟨#[44]⟩ : ByteArray)).size + ((((rd_T46 l0 x8_1).f0) ++ (rdOf ByteArray.empty t1003 ((rd_T46 l0 x8_1).f1))) ++ t1007).size ≤ 9223372036854775807) = true := decide_eq_true c13
             try have c13b2 : (9223372036854775807 < (x3_1 ++ (⟨#[44]⟩ : ByteArray)).size + ((((rd_T46 l0 x8_1).f0) ++ (rdOf ByteArray.empty t1003 ((rd_T46 l0 x8_1).f1))) ++ t1007).size) = False := eq_false (Nat.not_lt.2 c13)
             try (have c13b3 := c13b2; simp only [ByteArray.size_append, sz_mk_, List.size_toArray, List.length_cons, List.length_nil, Nat.reduceAdd] at c13b3)
             have H' := am_ H
             clear H
             have p1001 : 0 ≤ (x8_1 : Int) := od_
             have q1001 : x8_1 < (l0.length : Int) := od_
             obtain ⟨ad1001, e1001, hx1001_0, hx1001_1, hx1001_2⟩ := at_T46 HR0.out x8_1 p1001 q1001
             cases e1001
             replace hx1001_0 := kp_ HB hx1001_0
             replace hx1001_1 := kp_ HB hx1001_1
             replace hx1001_2 := kp_ HB hx1001_2
             replace p1001 := eq_true p1001
             replace q1001 := eq_true q1001
             try go_wp2_with (first | ((with_reducible refine gate_dst (N := 5) rfl ?_); refine bx_ 5 #[.string (⟨#[]⟩ : ByteArray), .int .i64 0, .string (⟨#[]⟩ : ByteArray)] 46 ?_; intro gb1002 hg w14 hbox hb; have BK1002 := am_ (hbox); have GW1002 := am_ (gs_ hg : w.heap.size ≤ gb1002); replace HB := am_ (below_step bl_ hb); have GE1002 := GW1002; clear hb hbox hg; have hcz15_0 := bc3_0 BK1002; have hcz15_1 := bc3_1 BK1002; have hcz15_2 := bc3_2 BK1002; have hfz15_0 := bf_ BK1002 0; have hfz15_1 := bf_ BK1002 1; have hfz15_2 := bf_ BK1002 2))
             have n0_ : Aside0 ((((w14.setCell ⟨gb1002, 0, none⟩ (.string ((rd_T46 l0 x8_1).f0))).setCell ⟨gb1002, 1, none⟩ (.int .i64 ((rd_T46 l0 x8_1).f1))).setCell ⟨gb1002, 2, none⟩ (.string ((rd_T46 l0 x8_1).f2))).heap[gb1002]? = some (.cells #[.string ((rd_T46 l0 x8_1).f0), .int .i64 ((rd_T46 l0 x8_1).f1), .string ((rd_T46 l0 x8_1).f2)] 46 (0, 0))) := ⟨by (with_reducible repeat (first | refine blk_drewN ?_ _ | refine blk_drew ?_ | refine blk_alloc ?_ _)); refine blk_put (cs := #[.string ((rd_T46 l0 x8_1).f0), .int .i64 ((rd_T46 l0 x8_1).f1), .string (⟨#[]⟩ : ByteArray)]) ?_ 2 _ rfl; (with_reducible repeat (first | refine blk_drewN ?_ _ | refine blk_drew ?_ | refine blk_alloc ?_ _)); refine blk_put (cs := #[.string ((rd_T46 l0 x8_1).f0), .int .i64 0, .string (⟨#[]⟩ : ByteArray)]) ?_ 1 _ rfl; (with_reducible repeat (first | refine blk_drewN ?_ _ | refine blk_drew ?_ | refine blk_alloc ?_ _)); refine blk_put (cs := #[.string (⟨#[]⟩ : ByteArray), .int .i64 0, .string (⟨#[]⟩ : ByteArray)]) ?_ 0 _ rfl; (with_reducible repeat (first | refine blk_drewN ?_ _ | refine blk_drew ?_ | refine blk_alloc ?_ _)); exact BK1002.out⟩
             have n1_ : Aside0 (Below w.heap.size w (((w14.setCell ⟨gb1002, 0, none⟩ (.string ((rd_T46 l0 x8_1).f0))).setCell ⟨gb1002, 1, none⟩ (.int .i64 ((rd_T46 l0 x8_1).f1))).setCell ⟨gb1002, 2, none⟩ (.string ((rd_T46 l0 x8_1).f2)))) := ⟨bg_⟩
             (try clear BK1002)
             (try clear HB)
             generalize (((w14.setCell ⟨gb1002, 0, none⟩ (.string ((rd_T46 l0 x8_1).f0))).setCell ⟨gb1002, 1, none⟩ (.int .i64 ((rd_T46 l0 x8_1).f1))).setCell ⟨gb1002, 2, none⟩ (.string ((rd_T46 l0 x8_1).f2))) = w16 at n0_ n1_ ⊢
             have BK1002 := n0_
             have HB := n1_
             clear n0_ n1_
             have n0_ := am_ (blk_drew BK1002.out)
             have n1_ := am_ (below_drew1 HB.out)
             clear BK1002
             clear HB
             have BK1002 := n0_
             have HB := n1_
             clear n0_ n1_
             refine start_ (n := 15) (S := fun w' => w'.cell? ⟨gb1002, 0, none⟩ = some (.string ((rd_T46 l0 x8_1).f0)) ∧ w'.cell? ⟨gb1002, 1, none⟩ = some (.int .i64 ((rd_T46 l0 x8_1).f1)) ∧ w'.cell? ⟨gb1002, 2, none⟩ = some (.string ((rd_T46 l0 x8_1).f2))) (ds := []) (bz 15 0) (by kernel_rfl) rfl rfl ⟨(blk_cell BK1002.out 0).trans rfl, (blk_cell BK1002.out 1).trans rfl, (blk_cell BK1002.out 2).trans rfl⟩ (fun hHeld => ?_); refine with_tabW spec_l2MatchersText.tab7 spec_l2MatchersText.bits7 (fun HT_ HW_ => ?_)
             generalize w16.drew = w17 at BK1002 HB hHeld ⊢
             refine pz_ 0 17 1 ?_
             refine pz_ 1 18 3 ?_
             refine pz_ 4 21 19 ?_
             refine pz_ 9 26 531 ?_
             refine tz_ 2 19 535 ?_
             refine tz_ 5 22 567 ?_
             refine tz_ 10 27 1591 ?_
             refine one_ (i := 3) (N := some 20) (bz 15 1599) rfl rfl (one_of HT_.out (by kernel_rfl)) (by decide) (fun K hK => ?_)
             refine goes_ Tryd.func42 (by kernel_rfl) rfl #[] (by rfl) rfl rfl ag_ ?_
             with_reducible refine (spec_l2Ops.calls  t1003 _ A7.out).mono ?_
             rintro e w18 ⟨v1004, rfl, ho0, hb⟩

             refine ⟨_, rfl, ?_⟩
             have n0_ := am_ (Kd.R_lower ho0 (below_size bg_))
             have n1_ := am_ (blk_below (g := gb1002) (vk_ BK1002) hb)
             have n2_ := am_ (below_step bg_ hb)
             clear BK1002
             clear HB
             have HO1005 := n0_
             have BK1002 := n1_
             have HB := n2_
             clear n0_ n1_ n2_
             (try clear hb)
             (try clear hb2)
             (try clear hk)
             (try clear hi)
             (try clear ho0)
             obtain ⟨Ao19, co19, eo19⟩ := Kd.R_slice HO1005.out
             (first | subst eo19 | (injection eo19 with f1_ f2_ f3_; have f4_ := f1_.symm; have f5_ := f3_.symm; clear f1_ f2_ f3_; subst f4_; subst f5_))
             have p1006 : 0 ≤ (((rd_T46 l0 x8_1).f1) : Int) := od_
             have q1006 : ((rd_T46 l0 x8_1).f1) < (t1003.length : Int) := od_
             obtain ⟨ad1006, e1006, hx1006_0⟩ := Kd.at_string (Kd.R_reads' HO1005.out).2.2 ((rd_T46 l0 x8_1).f1) p1006 q1006
             cases e1006
             replace p1006 := eq_true p1006
             replace q1006 := eq_true q1006
             refine hK.out _ _ ⟨(blk_cell BK1002.out 0).trans rfl, (blk_cell BK1002.out 1).trans rfl, (blk_cell BK1002.out 2).trans rfl⟩ (fun hHeld => ?_)
             refine more_ (S2 := fun w' => w'.cell? ⟨gb1002, 0, none⟩ = some (.string ((rd_T46 l0 x8_1).f0)) ∧ w'.cell? ⟨gb1002, 1, none⟩ = some (.int .i64 ((rd_T46 l0 x8_1).f1)) ∧ w'.cell? ⟨gb1002, 2, none⟩ = some (.string ((rd_T46 l0 x8_1).f2)) ∧ w'.cell? (ad1006.add (((rd_T46 l0 x8_1).f1)).toNat) = some (.string (rdOf ByteArray.empty t1003 ((rd_T46 l0 x8_1).f1)))) (fun _ hs_ => ⟨hs_.1, hs_.2.1, hs_.2.2.1⟩) ⟨hHeld.1, hHeld.2.1, hHeld.2.2, hx1006_0⟩ (fun hHeld => ?_)
             clear hK K
             refine norm_ (a' := ?_) ?_ ?_
             rotate_left
             ·show Act.put _ (some 20) _ = _
              simp only [Act.put, List.setIfInBounds_toArray, List.set_cons_zero, List.set_cons_succ, i64_w, i32_w]
              rfl
             refine pz_ 6 23 1663 ?_
             refine tz_ 7 24 1791 ?_
             refine pz_ 8 25 2047 ?_
             refine one_ (i := 11) (N := some 28) (bz 15 4095) rfl rfl (one_of HT_.out (by kernel_rfl)) (by decide) (fun K hK => ?_)
             refine goes_ Tryd.func43 (by kernel_rfl) rfl #[.string ((rd_T46 l0 x8_1).f2)] (by rfl) rfl rfl ag_ ?_
             with_reducible refine (spec_l2Quoted.calls k1 ((rd_T46 l0 x8_1).f2) t1007 _ A11.out).mono ?_
             rintro e w20 ⟨rfl, hb⟩
             have HS3_ := (hb.cell (World.block_lt_of_cell? _ _ (hHeld.2.2.2))).trans (hHeld.2.2.2)
             refine ⟨_, rfl, ?_⟩
             have n0_ := am_ (Kd.R_below (ro_ HO1005) hb)
             have n1_ := am_ (blk_below (g := gb1002) (vk_ BK1002) hb)
             have n2_ := am_ (below_step bg_ hb)
             clear HO1005
             clear BK1002
             clear HB
             have HO1005 := n0_
             have BK1002 := n1_
             have HB := n2_
             clear n0_ n1_ n2_
             (try clear hb)
             (try clear hb2)
             (try clear hk)
             (try clear hi)
             refine hK.out _ _ ⟨(blk_cell BK1002.out 0).trans rfl, (blk_cell BK1002.out 1).trans rfl, (blk_cell BK1002.out 2).trans rfl, HS3_⟩ (fun hHeld => ?_)
             clear hK K
             refine norm_ (a' := ?_) ?_ ?_
             rotate_left
             ·show Act.put _ (some 28) _ = _
              simp only [Act.put, List.setIfInBounds_toArray, List.set_cons_zero, List.set_cons_succ, i64_w, i32_w]
              rfl
             refine pz_ 12 29 8191 ?_
             refine pz_ 13 30 16383 ?_
             refine pz_ 14 3 32767 ?_
             refine done_ (done_of HT_.out (by kernel_rfl)) ?_
             try go_wp2
             go_roundg k1
             case measure => have := HK1.out; omega
             case rel => exact ⟨((x3_1 ++ (⟨#[44]⟩ : ByteArray)) ++ ((((rd_T46 l0 x8_1).f0) ++ (rdOf ByteArray.empty t1003 ((rd_T46 l0 x8_1).f1))) ++ t1007)), (wrap64 (x8_1 + 1)), rs_, rs_, H', ⟨by have := HK1.out; omega⟩, ⟨bg_⟩⟩
            ·rw [if_neg c13] at H
             exact absurd H (by simp)
           ·rw [if_neg c12] at H
            exact absurd H (by simp)
          ·rw [if_neg c10] at H
           exact absurd H (by simp)
         ·rw [if_neg c9] at H
          exact absurd H (by simp)
        ·rw [if_neg c8] at H
         exact absurd H (by simp)
       ·rw [if_neg c6] at H
        exact absurd H (by simp)
      ·rw [if_neg c5] at H
       have c5b0 : decide (0 < x8_1) = false := decide_eq_false c5
       clear c5
       replace H := Option.bind_eq_some_iff.mp H
       obtain ⟨t1008, A210, H⟩ := H
       replace H : (if 0 ≤ ((rd_T46 l0 x8_1).f1) then (if ((rd_T46 l0 x8_1).f1) < (t1008.length : Int) then (if ((rd_T46 l0 x8_1).f0).size + (rdOf ByteArray.empty t1008 ((rd_T46 l0 x8_1).f1)).size ≤ 9223372036854775807 then ((spec_l2Quoted.f k1 ((rd_T46 l0 x8_1).f2)).bind fun t1012 => (if (((rd_T46 l0 x8_1).f0) ++ (rdOf ByteArray.empty t1008 ((rd_T46 l0 x8_1).f1))).size + t1012.size ≤ 9223372036854775807 then (if x3_1.size + ((((rd_T46 l0 x8_1).f0) ++ (rdOf ByteArray.empty t1008 ((rd_T46 l0 x8_1).f1))) ++ t1012).size ≤ 9223372036854775807 then (spec_l2MatchersText.l0 k1 (x3_1 ++ ((((rd_T46 l0 x8_1).f0) ++ (rdOf ByteArray.empty t1008 ((rd_T46 l0 x8_1).f1))) ++ t1012)) l0 (l0.length : Int) (wrap64 (x8_1 + 1))) else (none)) else (none))) else (none)) else (none)) else (none)) = some r := H
       have A21 := am_ A210
       clear A210
       by_cases c22 : 0 ≤ ((rd_T46 l0 x8_1).f1)
       ·rw [if_pos c22] at H
        have c22b0 : decide (0 ≤ ((rd_T46 l0 x8_1).f1)) = true := decide_eq_true c22
        clear c22
        by_cases c23 : ((rd_T46 l0 x8_1).f1) < (t1008.length : Int)
        ·rw [if_pos c23] at H
         have c23b0 : decide (((rd_T46 l0 x8_1).f1) < (t1008.length : Int)) = true := decide_eq_true c23
         clear c23
         by_cases c24 : ((rd_T46 l0 x8_1).f0).size + (rdOf ByteArray.empty t1008 ((rd_T46 l0 x8_1).f1)).size ≤ 9223372036854775807
         ·rw [if_pos c24] at H
          have c24b0 := eq_true c24
          have c24b1 : decide (((rd_T46 l0 x8_1).f0).size + (rdOf ByteArray.empty t1008 ((rd_T46 l0 x8_1).f1)).size ≤ 9223372036854775807) = true := decide_eq_true c24
          try have c24b2 : (9223372036854775807 < ((rd_T46 l0 x8_1).f0).size + (rdOf ByteArray.empty t1008 ((rd_T46 l0 x8_1).f1)).size) = False := eq_false (Nat.not_lt.2 c24)
          replace H := Option.bind_eq_some_iff.mp H
          obtain ⟨t1012, A250, H⟩ := H
          replace H : (if (((rd_T46 l0 x8_1).f0) ++ (rdOf ByteArray.empty t1008 ((rd_T46 l0 x8_1).f1))).size + t1012.size ≤ 9223372036854775807 then (if x3_1.size + ((((rd_T46 l0 x8_1).f0) ++ (rdOf ByteArray.empty t1008 ((rd_T46 l0 x8_1).f1))) ++ t1012).size ≤ 9223372036854775807 then (spec_l2MatchersText.l0 k1 (x3_1 ++ ((((rd_T46 l0 x8_1).f0) ++ (rdOf ByteArray.empty t1008 ((rd_T46 l0 x8_1).f1))) ++ t1012)) l0 (l0.length : Int) (wrap64 (x8_1 + 1))) else (none)) else (none)) = some r := H
          have A25 := am_ A250
          clear A250
          by_cases c26 : (((rd_T46 l0 x8_1).f0) ++ (rdOf ByteArray.empty t1008 ((rd_T46 l0 x8_1).f1))).size + t1012.size ≤ 9223372036854775807
          ·rw [if_pos c26] at H
           have c26b0 := eq_true c26
           have c26b1 : decide ((((rd_T46 l0 x8_1).f0) ++ (rdOf ByteArray.empty t1008 ((rd_T46 l0 x8_1).f1))).size + t1012.size ≤ 9223372036854775807) = true := decide_eq_true c26
           try have c26b2 : (9223372036854775807 < (((rd_T46 l0 x8_1).f0) ++ (rdOf ByteArray.empty t1008 ((rd_T46 l0 x8_1).f1))).size + t1012.size) = False := eq_false (Nat.not_lt.2 c26)
           try (have c26b3 := c26b2; simp only [ByteArray.size_append, sz_mk_, List.size_toArray, List.length_cons, List.length_nil, Nat.reduceAdd] at c26b3)
           by_cases c27 : x3_1.size + ((((rd_T46 l0 x8_1).f0) ++ (rdOf ByteArray.empty t1008 ((rd_T46 l0 x8_1).f1))) ++ t1012).size ≤ 9223372036854775807
           ·rw [if_pos c27] at H
            have c27b0 := eq_true c27
            have c27b1 : decide (x3_1.size + ((((rd_T46 l0 x8_1).f0) ++ (rdOf ByteArray.empty t1008 ((rd_T46 l0 x8_1).f1))) ++ t1012).size ≤ 9223372036854775807) = true := decide_eq_true c27
            try have c27b2 : (9223372036854775807 < x3_1.size + ((((rd_T46 l0 x8_1).f0) ++ (rdOf ByteArray.empty t1008 ((rd_T46 l0 x8_1).f1))) ++ t1012).size) = False := eq_false (Nat.not_lt.2 c27)
            try (have c27b3 := c27b2; simp only [ByteArray.size_append, sz_mk_, List.size_toArray, List.length_cons, List.length_nil, Nat.reduceAdd] at c27b3)
            have H' := am_ H
            clear H
            have p1001 : 0 ≤ (x8_1 : Int) := od_
            have q1001 : x8_1 < (l0.length : Int) := od_
            obtain ⟨ad1001, e1001, hx1001_0, hx1001_1, hx1001_2⟩ := at_T46 HR0.out x8_1 p1001 q1001
            cases e1001
            replace hx1001_0 := kp_ HB hx1001_0
            replace hx1001_1 := kp_ HB hx1001_1
            replace hx1001_2 := kp_ HB hx1001_2
            replace p1001 := eq_true p1001
            replace q1001 := eq_true q1001
            try go_wp2_with (first | ((with_reducible refine gate_dst (N := 5) rfl ?_); refine bx_ 5 #[.string (⟨#[]⟩ : ByteArray), .int .i64 0, .string (⟨#[]⟩ : ByteArray)] 46 ?_; intro gb1002 hg w28 hbox hb; have BK1002 := am_ (hbox); have GW1002 := am_ (gs_ hg : w.heap.size ≤ gb1002); replace HB := am_ (below_step bl_ hb); have GE1002 := GW1002; clear hb hbox hg; have hcz29_0 := bc3_0 BK1002; have hcz29_1 := bc3_1 BK1002; have hcz29_2 := bc3_2 BK1002; have hfz29_0 := bf_ BK1002 0; have hfz29_1 := bf_ BK1002 1; have hfz29_2 := bf_ BK1002 2))
            have n0_ : Aside0 ((((w28.setCell ⟨gb1002, 0, none⟩ (.string ((rd_T46 l0 x8_1).f0))).setCell ⟨gb1002, 1, none⟩ (.int .i64 ((rd_T46 l0 x8_1).f1))).setCell ⟨gb1002, 2, none⟩ (.string ((rd_T46 l0 x8_1).f2))).heap[gb1002]? = some (.cells #[.string ((rd_T46 l0 x8_1).f0), .int .i64 ((rd_T46 l0 x8_1).f1), .string ((rd_T46 l0 x8_1).f2)] 46 (0, 0))) := ⟨by (with_reducible repeat (first | refine blk_drewN ?_ _ | refine blk_drew ?_ | refine blk_alloc ?_ _)); refine blk_put (cs := #[.string ((rd_T46 l0 x8_1).f0), .int .i64 ((rd_T46 l0 x8_1).f1), .string (⟨#[]⟩ : ByteArray)]) ?_ 2 _ rfl; (with_reducible repeat (first | refine blk_drewN ?_ _ | refine blk_drew ?_ | refine blk_alloc ?_ _)); refine blk_put (cs := #[.string ((rd_T46 l0 x8_1).f0), .int .i64 0, .string (⟨#[]⟩ : ByteArray)]) ?_ 1 _ rfl; (with_reducible repeat (first | refine blk_drewN ?_ _ | refine blk_drew ?_ | refine blk_alloc ?_ _)); refine blk_put (cs := #[.string (⟨#[]⟩ : ByteArray), .int .i64 0, .string (⟨#[]⟩ : ByteArray)]) ?_ 0 _ rfl; (with_reducible repeat (first | refine blk_drewN ?_ _ | refine blk_drew ?_ | refine blk_alloc ?_ _)); exact BK1002.out⟩
            have n1_ : Aside0 (Below w.heap.size w (((w28.setCell ⟨gb1002, 0, none⟩ (.string ((rd_T46 l0 x8_1).f0))).setCell ⟨gb1002, 1, none⟩ (.int .i64 ((rd_T46 l0 x8_1).f1))).setCell ⟨gb1002, 2, none⟩ (.string ((rd_T46 l0 x8_1).f2)))) := ⟨bg_⟩
            (try clear BK1002)
            (try clear HB)
            generalize (((w28.setCell ⟨gb1002, 0, none⟩ (.string ((rd_T46 l0 x8_1).f0))).setCell ⟨gb1002, 1, none⟩ (.int .i64 ((rd_T46 l0 x8_1).f1))).setCell ⟨gb1002, 2, none⟩ (.string ((rd_T46 l0 x8_1).f2))) = w30 at n0_ n1_ ⊢
            have BK1002 := n0_
            have HB := n1_
            clear n0_ n1_
            have n0_ := am_ (blk_drew BK1002.out)
            have n1_ := am_ (below_drew1 HB.out)
            clear BK1002
            clear HB
            have BK1002 := n0_
            have HB := n1_
            clear n0_ n1_
            refine start_ (n := 15) (S := fun w' => w'.cell? ⟨gb1002, 0, none⟩ = some (.string ((rd_T46 l0 x8_1).f0)) ∧ w'.cell? ⟨gb1002, 1, none⟩ = some (.int .i64 ((rd_T46 l0 x8_1).f1)) ∧ w'.cell? ⟨gb1002, 2, none⟩ = some (.string ((rd_T46 l0 x8_1).f2))) (ds := []) (bz 15 0) (by kernel_rfl) rfl rfl ⟨(blk_cell BK1002.out 0).trans rfl, (blk_cell BK1002.out 1).trans rfl, (blk_cell BK1002.out 2).trans rfl⟩ (fun hHeld => ?_); refine with_tabW spec_l2MatchersText.tab7 spec_l2MatchersText.bits7 (fun HT_ HW_ => ?_)
            generalize w30.drew = w31 at BK1002 HB hHeld ⊢
            refine pz_ 0 17 1 ?_
            refine pz_ 1 18 3 ?_
            refine pz_ 4 21 19 ?_
            refine pz_ 9 26 531 ?_
            refine tz_ 2 19 535 ?_
            refine tz_ 5 22 567 ?_
            refine tz_ 10 27 1591 ?_
            refine one_ (i := 3) (N := some 20) (bz 15 1599) rfl rfl (one_of HT_.out (by kernel_rfl)) (by decide) (fun K hK => ?_)
            refine goes_ Tryd.func42 (by kernel_rfl) rfl #[] (by rfl) rfl rfl ag_ ?_
            with_reducible refine (spec_l2Ops.calls  t1008 _ A21.out).mono ?_
            rintro e w32 ⟨v1009, rfl, ho0, hb⟩

            refine ⟨_, rfl, ?_⟩
            have n0_ := am_ (Kd.R_lower ho0 (below_size bg_))
            have n1_ := am_ (blk_below (g := gb1002) (vk_ BK1002) hb)
            have n2_ := am_ (below_step bg_ hb)
            clear BK1002
            clear HB
            have HO1010 := n0_
            have BK1002 := n1_
            have HB := n2_
            clear n0_ n1_ n2_
            (try clear hb)
            (try clear hb2)
            (try clear hk)
            (try clear hi)
            (try clear ho0)
            obtain ⟨Ao33, co33, eo33⟩ := Kd.R_slice HO1010.out
            (first | subst eo33 | (injection eo33 with f1_ f2_ f3_; have f4_ := f1_.symm; have f5_ := f3_.symm; clear f1_ f2_ f3_; subst f4_; subst f5_))
            have p1011 : 0 ≤ (((rd_T46 l0 x8_1).f1) : Int) := od_
            have q1011 : ((rd_T46 l0 x8_1).f1) < (t1008.length : Int) := od_
            obtain ⟨ad1011, e1011, hx1011_0⟩ := Kd.at_string (Kd.R_reads' HO1010.out).2.2 ((rd_T46 l0 x8_1).f1) p1011 q1011
            cases e1011
            replace p1011 := eq_true p1011
            replace q1011 := eq_true q1011
            refine hK.out _ _ ⟨(blk_cell BK1002.out 0).trans rfl, (blk_cell BK1002.out 1).trans rfl, (blk_cell BK1002.out 2).trans rfl⟩ (fun hHeld => ?_)
            refine more_ (S2 := fun w' => w'.cell? ⟨gb1002, 0, none⟩ = some (.string ((rd_T46 l0 x8_1).f0)) ∧ w'.cell? ⟨gb1002, 1, none⟩ = some (.int .i64 ((rd_T46 l0 x8_1).f1)) ∧ w'.cell? ⟨gb1002, 2, none⟩ = some (.string ((rd_T46 l0 x8_1).f2)) ∧ w'.cell? (ad1011.add (((rd_T46 l0 x8_1).f1)).toNat) = some (.string (rdOf ByteArray.empty t1008 ((rd_T46 l0 x8_1).f1)))) (fun _ hs_ => ⟨hs_.1, hs_.2.1, hs_.2.2.1⟩) ⟨hHeld.1, hHeld.2.1, hHeld.2.2, hx1011_0⟩ (fun hHeld => ?_)
            clear hK K
            refine norm_ (a' := ?_) ?_ ?_
            rotate_left
            ·show Act.put _ (some 20) _ = _
             simp only [Act.put, List.setIfInBounds_toArray, List.set_cons_zero, List.set_cons_succ, i64_w, i32_w]
             rfl
            refine pz_ 6 23 1663 ?_
            refine tz_ 7 24 1791 ?_
            refine pz_ 8 25 2047 ?_
            refine one_ (i := 11) (N := some 28) (bz 15 4095) rfl rfl (one_of HT_.out (by kernel_rfl)) (by decide) (fun K hK => ?_)
            refine goes_ Tryd.func43 (by kernel_rfl) rfl #[.string ((rd_T46 l0 x8_1).f2)] (by rfl) rfl rfl ag_ ?_
            with_reducible refine (spec_l2Quoted.calls k1 ((rd_T46 l0 x8_1).f2) t1012 _ A25.out).mono ?_
            rintro e w34 ⟨rfl, hb⟩
            have HS3_ := (hb.cell (World.block_lt_of_cell? _ _ (hHeld.2.2.2))).trans (hHeld.2.2.2)
            refine ⟨_, rfl, ?_⟩
            have n0_ := am_ (Kd.R_below (ro_ HO1010) hb)
            have n1_ := am_ (blk_below (g := gb1002) (vk_ BK1002) hb)
            have n2_ := am_ (below_step bg_ hb)
            clear HO1010
            clear BK1002
            clear HB
            have HO1010 := n0_
            have BK1002 := n1_
            have HB := n2_
            clear n0_ n1_ n2_
            (try clear hb)
            (try clear hb2)
            (try clear hk)
            (try clear hi)
            refine hK.out _ _ ⟨(blk_cell BK1002.out 0).trans rfl, (blk_cell BK1002.out 1).trans rfl, (blk_cell BK1002.out 2).trans rfl, HS3_⟩ (fun hHeld => ?_)
            clear hK K
            refine norm_ (a' := ?_) ?_ ?_
            rotate_left
            ·show Act.put _ (some 28) _ = _
             simp only [Act.put, List.setIfInBounds_toArray, List.set_cons_zero, List.set_cons_succ, i64_w, i32_w]
             rfl
            refine pz_ 12 29 8191 ?_
            refine pz_ 13 30 16383 ?_
            refine pz_ 14 3 32767 ?_
            refine done_ (done_of HT_.out (by kernel_rfl)) ?_
            try go_wp2
            go_roundg k1
            case measure => have := HK1.out; omega
            case rel => exact ⟨(x3_1 ++ ((((rd_T46 l0 x8_1).f0) ++ (rdOf ByteArray.empty t1008 ((rd_T46 l0 x8_1).f1))) ++ t1012)), (wrap64 (x8_1 + 1)), rs_, rs_, H', ⟨by have := HK1.out; omega⟩, ⟨bg_⟩⟩
           ·rw [if_neg c27] at H
            exact absurd H (by simp)
          ·rw [if_neg c26] at H
           exact absurd H (by simp)
         ·rw [if_neg c24] at H
          exact absurd H (by simp)
        ·rw [if_neg c23] at H
         exact absurd H (by simp)
       ·rw [if_neg c22] at H
        exact absurd H (by simp)
     ·rw [if_neg c4] at H
      exact absurd H (by simp)
    ·rw [if_neg c3] at H
     exact absurd H (by simp)
   ·rw [if_neg c2] at H
    have c2b0 : decide (x8_1 < (l0.length : Int)) = false := decide_eq_false c2
    clear c2
    by_cases c35 : x3_1.size + 1 ≤ 9223372036854775807
    ·rw [if_pos c35] at H
     have c35b0 := eq_true c35
     have c35b1 : decide (x3_1.size + 1 ≤ 9223372036854775807) = true := decide_eq_true c35
     try have c35b2 : (9223372036854775807 < x3_1.size + 1) = False := eq_false (Nat.not_lt.2 c35)
     obtain rfl := Option.some.inj H
     go_wp2
     go_ret
     exact ⟨rf_, bl_⟩
    ·rw [if_neg c35] at H
     exact absurd H (by simp)

/-! ### spec_MatchersText: function 7 -/
def spec_MatchersText.f (k : Nat) (l0 : List (S46)) : Option (ByteArray) := (spec_GoodMatchers.f k l0).bind fun t1001 => (if t1001 = true then ((spec_l2MatchersText.f k l0).bind fun t1002 => (some t1002)) else (some (⟨#[]⟩ : ByteArray)))
theorem spec_MatchersText.mono : ∀ a0 k, LeO (spec_MatchersText.f k a0) (spec_MatchersText.f (k + 1) a0) := by
 intro a0 k
 unfold spec_MatchersText.f
 repeat' first
   | with_reducible first | exact spec_GoodMatchers.mono _ _ | exact spec_l2MatchersText.mono _ _ | exact LeO.refl _ | exact LeO.none _ | refine LeO.ite ?_ ?_ | refine LeO.bind ?_ (fun _ => ?_)
   | exact spec_GoodMatchers.mono _ _
   | exact spec_l2MatchersText.mono _ _
   | exact LeO.none _
   | refine LeO.ite ?_ ?_
   | refine LeO.bind ?_ (fun _ => ?_)
set_option maxHeartbeats 8000000 in
set_option maxRecDepth 100000 in
theorem spec_MatchersText.calls (k : Nat) (A0 : Option Addr) (c0 : Nat) (l0 : List (S46)) (r : ByteArray) (w : World) (hr0 : Kd.C k46 w A0 l0.length l0) (hc0 : l0.length ≤ c0) (h : spec_MatchersText.f k l0 = some r) :
  Calls Tryd.prog 7 #[.slice A0 l0.length c0] w fun e w' => e = .returned (.string r) ∧ Below w.heap.size w w' := by
 have HR0 := am_ hr0
 have HC0 := am_ hc0
 clear hr0 hc0
 have HB := am_ (Below.refl w.heap.size w)
 have H : ((spec_GoodMatchers.f k l0).bind fun t1001 => (if t1001 = true then ((spec_l2MatchersText.f k l0).bind fun t1002 => (some t1002)) else (some (⟨#[]⟩ : ByteArray)))) = some r := h
 clear h
 replace H := Option.bind_eq_some_iff.mp H
 obtain ⟨t1001, A20, H⟩ := H
 replace H : (if t1001 = true then ((spec_l2MatchersText.f k l0).bind fun t1002 => (some t1002)) else (some (⟨#[]⟩ : ByteArray))) = some r := H
 have A2 := am_ A20
 clear A20
 by_cases c3 : t1001 = true
 ·subst c3
  have H1 : ((spec_l2MatchersText.f k l0).bind fun t1002 => (some t1002)) = some r := by rw [if_pos rfl] at H; exact H
  clear H
  have H := H1
  clear H1
  replace H := Option.bind_eq_some_iff.mp H
  obtain ⟨t1002, A40, H⟩ := H
  replace H : (some t1002) = some r := H
  have A4 := am_ A40
  clear A40
  obtain rfl := Option.some.inj H
  go_enter Tryd.func7, Tryd.ntmps7
  go_wp2_with (first | ((with_reducible refine gate_callee (f := 21) rfl ?_); refine goesL_ (some 4) rfl rfl Tryd.func21 (by kernel_rfl) rfl #[.slice A0 l0.length c0] rfl ag_ ?_; (with_reducible refine (spec_GoodMatchers.calls k _ _ l0 true _ ?side1 ?side2 A2.out).mono ?_); (case side1 => repeat (first | exact HR0.out | (with_reducible refine Kd.C_alloc ?_ _) | (with_reducible refine Kd.C_drewN ?_ _) | (with_reducible refine Kd.C_drew ?_))); (case side2 => exact HC0.out); rintro e w5 ⟨rfl, hb⟩; refine ⟨_, rfl, ?_⟩; replace HB := am_ (below_step bl_ hb); (try clear hb); (try clear hb2); (try clear hk); (try clear hi)) | ((with_reducible refine gate_callee (f := 22) rfl ?_); refine goesL_ (some 7) rfl rfl Tryd.func22 (by kernel_rfl) rfl #[.slice A0 l0.length c0] rfl ag_ ?_; (with_reducible refine (spec_l2MatchersText.calls k _ _ l0 t1002 _ ?side1 ?side2 A4.out).mono ?_); (case side1 => exact cc_ (Kd.C_below HR0.out HB.out)); (case side2 => exact HC0.out); rintro e w6 ⟨rfl, hb⟩; refine ⟨_, rfl, ?_⟩; replace HB := am_ (below_step bl_ hb); (try clear hb); (try clear hb2); (try clear hk); (try clear hi)))
  go_ret
  exact ⟨rf_, bl_⟩
 ·replace c3 := Bool.eq_false_iff.mpr c3
  subst c3
  have H1 : (some (⟨#[]⟩ : ByteArray)) = some r := by rw [if_neg (show ¬ (false = true) by decide)] at H; exact H
  clear H
  have H := H1
  clear H1
  obtain rfl := Option.some.inj H
  go_enter Tryd.func7, Tryd.ntmps7
  go_wp2_with (first | ((with_reducible refine gate_callee (f := 21) rfl ?_); refine goesL_ (some 4) rfl rfl Tryd.func21 (by kernel_rfl) rfl #[.slice A0 l0.length c0] rfl ag_ ?_; (with_reducible refine (spec_GoodMatchers.calls k _ _ l0 false _ ?side1 ?side2 A2.out).mono ?_); (case side1 => repeat (first | exact HR0.out | (with_reducible refine Kd.C_alloc ?_ _) | (with_reducible refine Kd.C_drewN ?_ _) | (with_reducible refine Kd.C_drew ?_))); (case side2 => exact HC0.out); rintro e w7 ⟨rfl, hb⟩; refine ⟨_, rfl, ?_⟩; replace HB := am_ (below_step bl_ hb); (try clear hb); (try clear hb2); (try clear hk); (try clear hi)))
  go_ret
  exact ⟨rf_, bl_⟩

/-! ### laws_toMatcher: function 23 -/
def laws_toMatcher.f (a0_0 : ByteArray) (a0_1 : Int) (a0_2 : ByteArray) : Option (ByteArray × Int × ByteArray) := some (a0_0, a0_1, a0_2)
set_option maxHeartbeats 8000000 in
set_option maxRecDepth 100000 in
theorem laws_toMatcher.calls (a0_0 : ByteArray) (a0_1 : Int) (a0_2 : ByteArray) (r1 : ByteArray) (r2 : Int) (r3 : ByteArray) (w : World) (h : laws_toMatcher.f a0_0 a0_1 a0_2 = some (r1, r2, r3)) :
  Calls Tryd.prog 23 #[.agg #[.string a0_0, .int .i64 a0_1, .string a0_2]] w fun e w' => e = .returned (.agg #[.string r1, .int .i64 r2, .string r3]) ∧ Below w.heap.size w w' := by
 have hu44 := Tryd.underlying44
 have hu46 := Tryd.underlying46
 have HB := am_ (Below.refl w.heap.size w)
 have H : (some (a0_0, a0_1, a0_2)) = some (r1, r2, r3) := h
 clear h
 simp only [Option.some.injEq, Prod.mk.injEq] at H
 obtain ⟨rfl, rfl, rfl⟩ := H
 go_enter Tryd.func23, Tryd.ntmps23
 go_wp2_with (first | ((with_reducible refine gate_dst (N := 1) rfl ?_); refine bx_ 1 #[.string a0_0, .int .i64 a0_1, .string a0_2] 44 ?_; intro gb1001 hg w2 hbox hb; have BK1001 := am_ (hbox); have GW1001 := am_ (gs_ hg : w.heap.size ≤ gb1001); replace HB := am_ (below_step bl_ hb); have GE1001 := GW1001; clear hb hbox hg) | ((with_reducible refine gate_dst (N := 2) rfl ?_); refine bx_ 2 #[.string (⟨#[]⟩ : ByteArray), .int .i64 0, .string (⟨#[]⟩ : ByteArray)] 46 ?_; intro gb1002 hg w3 hbox hb; have BK1002 := am_ (hbox); have GW1002 := am_ (gg_ hg : w.heap.size ≤ gb1002); have NB1001_1002 := am_ ((by rw [hg]; exact Nat.ne_of_lt (blk_lt (g := gb1001) (o := .cells #[.string a0_0, .int .i64 a0_1, .string a0_2] 44 (0, 0)) (vk_ BK1001)) : gb1001 ≠ gb1002)); have NB1002_1001 := am_ ((by rw [hg]; exact Nat.ne_of_gt (blk_lt (g := gb1001) (o := .cells #[.string a0_0, .int .i64 a0_1, .string a0_2] 44 (0, 0)) (vk_ BK1001)) : gb1002 ≠ gb1001)); replace BK1001 := am_ (blk_below (g := gb1001) (vk_ BK1001) hb); replace HB := am_ (below_step bg_ hb); have GE1002 := GW1002; clear hb hbox hg) | ((with_reducible refine gate_dst (N := 3) rfl ?_); refine bx_ 3 #[.string (⟨#[]⟩ : ByteArray), .int .i64 0, .string (⟨#[]⟩ : ByteArray)] 46 ?_; intro gb1003 hg w4 hbox hb; have BK1003 := am_ (hbox); have GW1003 := am_ (gg_ hg : w.heap.size ≤ gb1003); have NB1001_1003 := am_ ((by rw [hg]; exact Nat.ne_of_lt (blk_lt (g := gb1001) (o := .cells #[.string a0_0, .int .i64 a0_1, .string a0_2] 44 (0, 0)) (vk_ BK1001)) : gb1001 ≠ gb1003)); have NB1003_1001 := am_ ((by rw [hg]; exact Nat.ne_of_gt (blk_lt (g := gb1001) (o := .cells #[.string a0_0, .int .i64 a0_1, .string a0_2] 44 (0, 0)) (vk_ BK1001)) : gb1003 ≠ gb1001)); have NB1002_1003 := am_ ((by rw [hg]; exact Nat.ne_of_lt (blk_lt (g := gb1002) (o := .cells #[.string (⟨#[]⟩ : ByteArray), .int .i64 0, .string (⟨#[]⟩ : ByteArray)] 46 (0, 0)) (vk_ BK1002)) : gb1002 ≠ gb1003)); have NB1003_1002 := am_ ((by rw [hg]; exact Nat.ne_of_gt (blk_lt (g := gb1002) (o := .cells #[.string (⟨#[]⟩ : ByteArray), .int .i64 0, .string (⟨#[]⟩ : ByteArray)] 46 (0, 0)) (vk_ BK1002)) : gb1003 ≠ gb1002)); replace BK1001 := am_ (blk_below (g := gb1001) (vk_ BK1001) hb); replace BK1002 := am_ (blk_below (g := gb1002) (vk_ BK1002) hb); replace HB := am_ (below_step bg_ hb); have GE1003 := GW1003; clear hb hbox hg; have hnb5 := NB1001_1002.out; have hnc5 := NB1002_1001.out; have hnb6 := NB1001_1003.out; have hnc6 := NB1003_1001.out; have hcz7_0 := bc3_0 BK1001; have hcz7_1 := bc3_1 BK1001; have hcz7_2 := bc3_2 BK1001; have hfz7_0 := bf_ BK1001 0; have hfz7_1 := bf_ BK1001 1; have hfz7_2 := bf_ BK1001 2; have hnb8 := NB1003_1002.out; have hnc8 := NB1002_1003.out; have hcz9_0 := bc3_0 BK1003; have hcz9_1 := bc3_1 BK1003; have hcz9_2 := bc3_2 BK1003; have hfz9_0 := bf_ BK1003 0; have hfz9_1 := bf_ BK1003 1; have hfz9_2 := bf_ BK1003 2; have hcz10_0 := bc3_0 BK1002; have hcz10_1 := bc3_1 BK1002; have hcz10_2 := bc3_2 BK1002; have hfz10_0 := bf_ BK1002 0; have hfz10_1 := bf_ BK1002 1; have hfz10_2 := bf_ BK1002 2))
 refine bodyPost_ret (results_cell_row rfl _ _ gb1002 46 #[.string a0_0, .int .i64 a0_1, .string a0_2] (0, 0) _ rfl (by (with_reducible repeat (first | refine blk_drewN ?_ _ | refine blk_drew ?_ | refine blk_alloc ?_ _)); refine blk_put (cs := #[.string a0_0, .int .i64 a0_1, .string (⟨#[]⟩ : ByteArray)]) ?_ 2 _ rfl; (with_reducible repeat (first | refine blk_drewN ?_ _ | refine blk_drew ?_ | refine blk_alloc ?_ _)); refine blk_put (cs := #[.string a0_0, .int .i64 0, .string (⟨#[]⟩ : ByteArray)]) ?_ 1 _ rfl; (with_reducible repeat (first | refine blk_drewN ?_ _ | refine blk_drew ?_ | refine blk_alloc ?_ _)); refine blk_put (cs := #[.string (⟨#[]⟩ : ByteArray), .int .i64 0, .string (⟨#[]⟩ : ByteArray)]) ?_ 0 _ rfl; (with_reducible repeat (first | refine blk_drewN ?_ _ | refine blk_drew ?_ | refine blk_alloc ?_ _)); refine blk_far ?_ NB1002_1003.out _; (with_reducible repeat (first | refine blk_drewN ?_ _ | refine blk_drew ?_ | refine blk_alloc ?_ _)); refine blk_far ?_ NB1002_1003.out _; (with_reducible repeat (first | refine blk_drewN ?_ _ | refine blk_drew ?_ | refine blk_alloc ?_ _)); refine blk_far ?_ NB1002_1003.out _; (with_reducible repeat (first | refine blk_drewN ?_ _ | refine blk_drew ?_ | refine blk_alloc ?_ _)); exact BK1002.out) Tryd.underlying46 rfl (by kernel_rfl)) rfl ?_
 exact ⟨rf_, bg_⟩

/-! ### laws_toMatcherS: function 8 -/
def laws_toMatcherS.l0 : Nat → List (S44) → List (S46) → Int → Option ((List (S46)))
 | 0, _, _, _ => none
 | k + 1, x0, x3, x4 => if x4 < (x0.length : Int) then (if 0 ≤ x4 then ((laws_toMatcher.f ((rd_T44 x0 x4).f0) ((rd_T44 x0 x4).f1) ((rd_T44 x0 x4).f2)).bind fun bt1005 => (if x4 < (x3.length : Int) then (laws_toMatcherS.l0 k x0 (x3.set (x4 : Int).toNat (⟨bt1005.1, bt1005.2.1, bt1005.2.2⟩ : S46)) (wrap64 (x4 + 1))) else (none))) else (none)) else (some x3)
def laws_toMatcherS.f (k : Nat) (l0 : List (S44)) : Option ((List (S46))) := if 0 ≤ (l0.length : Int) then (if ((l0.length : Int) : Int).toNat ≤ 7036874417766 then (laws_toMatcherS.l0 k l0 (List.replicate ((l0.length : Int) : Int).toNat z46) 0) else (none)) else (none)
theorem laws_toMatcherS.mono_l : ∀ k, (∀ y0 y1 y2, LeO (laws_toMatcherS.l0 k y0 y1 y2) (laws_toMatcherS.l0 (k + 1) y0 y1 y2))
 | 0 => fun _ _ _ r h => by simp [laws_toMatcherS.l0] at h
 | k + 1 => by
  have ih0 := laws_toMatcherS.mono_l k
  ·intro y0 y1 y2
   unfold laws_toMatcherS.l0
   repeat' first
   | with_reducible first | exact ih0 _ _ _ | exact LeO.refl _ | exact LeO.none _ | refine LeO.ite ?_ ?_ | refine LeO.bind ?_ (fun _ => ?_)
   | exact ih0 _ _ _
   | exact LeO.none _
   | refine LeO.ite ?_ ?_
   | refine LeO.bind ?_ (fun _ => ?_)
theorem laws_toMatcherS.mono : ∀ a0 k, LeO (laws_toMatcherS.f k a0) (laws_toMatcherS.f (k + 1) a0) := by
 intro a0 k
 have ih0 := laws_toMatcherS.mono_l k
 unfold laws_toMatcherS.f
 repeat' first
   | with_reducible first | exact ih0 _ _ _ | exact LeO.refl _ | exact LeO.none _ | refine LeO.ite ?_ ?_ | refine LeO.bind ?_ (fun _ => ?_)
   | exact ih0 _ _ _
   | exact LeO.none _
   | refine LeO.ite ?_ ?_
   | refine LeO.bind ?_ (fun _ => ?_)
set_option maxHeartbeats 8000000 in
set_option maxRecDepth 100000 in
theorem laws_toMatcherS.calls (k : Nat) (A0 : Option Addr) (c0 : Nat) (l0 : List (S44)) (r : List (S46)) (w : World) (hr0 : Kd.C k44 w A0 l0.length l0) (hc0 : l0.length ≤ c0) (h : laws_toMatcherS.f k l0 = some r) :
  Calls Tryd.prog 8 #[.slice A0 l0.length c0] w fun e w' => ∃ v0_ : Value, e = .returned (v0_) ∧ Kd.R k46 46 w' w.heap.size (fun _ => True) v0_ r ∧ Below w.heap.size w w' := by
 have hu44 := Tryd.underlying44
 have hu46 := Tryd.underlying46
 have HR0 := am_ hr0
 have HC0 := am_ hc0
 clear hr0 hc0
 have HB := am_ (Below.refl w.heap.size w)
 have H : (if 0 ≤ (l0.length : Int) then (if ((l0.length : Int) : Int).toNat ≤ 7036874417766 then (laws_toMatcherS.l0 k l0 (List.replicate ((l0.length : Int) : Int).toNat z46) 0) else (none)) else (none)) = some r := h
 clear h
 by_cases c2 : 0 ≤ (l0.length : Int)
 ·rw [if_pos c2] at H
  have c2b0 := eq_true c2
  have c2b1 : decide (0 ≤ (l0.length : Int)) = true := decide_eq_true c2
  clear c2
  by_cases c3 : ((l0.length : Int) : Int).toNat ≤ 7036874417766
  ·rw [if_pos c3] at H
   have c3b0 := eq_true c3
   have c3b1 : decide (((l0.length : Int) : Int).toNat ≤ 7036874417766) = true := decide_eq_true c3
   clear c3
   obtain ⟨y1001, hy1001⟩ : ∃ y_ : List (S46), y_ = (List.replicate ((l0.length : Int) : Int).toNat z46) := ⟨_, rfl⟩
   replace H : (laws_toMatcherS.l0 k l0 y1001 0) = some r := by first | (rw [hy1001]; with_reducible exact H) | (have H2_ := (Option.bind_some _ _).symm.trans H; rw [hy1001]; with_reducible exact H2_) | (have H2_ := (Option.bind_some _ _).symm.trans H; with_reducible exact H2_) | with_reducible exact H | (rw [hy1001]; exact H) | exact H
   have Ny1001 := am_ hy1001
   clear hy1001
   have H' := am_ H
   clear H
   go_enter Tryd.func8, Tryd.ntmps8
   go_wp2_with (first | ((with_reducible refine gate_dst (N := 7) rfl ?_); refine Kd.R_make k46 _ 46 rfl (N := 7) rfl 25 _ _ rfl (l0.length : Int) rfl rfl Tryd.underlying25 (.agg #[(.string ⟨#[]⟩), (.int .i64 0), (.string ⟨#[]⟩)]) 40 info46 rfl (by decide) (by omega) z46 (ok := fun _ => True) (okp := fun _ => True) (k46_mkM _ _ _ z46 ) (fun _ hk => hk) trivial (od_) (Nat.le_trans (Nat.mul_le_mul_right _ (od_ : (l0.length : Int).toNat ≤ 7036874417766)) (by omega)) (Below.refl _ _) (Nat.le_refl _) ?_; intro v1002 w4 ho5 hb hg_ hnew_; clear hg_ hnew_; (first | rw [← Ny1001.out] at ho5 | (simp only [Int.reduceToNat] at ho5; rw [← Ny1001.out] at ho5)); have HO1003 := am_ (Kd.R_lower ho5 (below_size bl_)); replace HB := am_ (below_step bl_ hb); clear hb ho5))
   go_loopg [4] k (fun kq v4 w' => ∃ (x3_1 : List (S46)) (x4_1 : Int), v4 = .int .i64 x4_1 ∧ Aside0 (laws_toMatcherS.l0 kq l0 x3_1 x4_1 = some r) ∧ Aside0 (kq ≤ k) ∧ Aside0 (Kd.R k46 46 w' w.heap.size (fun _ => True) v1002 x3_1) ∧ Aside0 (Below w.heap.size w w'))
   case atStart => exact ⟨(y1001), (0), rs_, H', ⟨Nat.le_refl _⟩, ⟨ro_ HO1003⟩, ⟨bl_⟩⟩
   case round =>
    clear H'
    try clear c2
    try clear c2b0
    try clear c2b1
    try clear p2
    try clear c3
    try clear c3b0
    try clear c3b1
    obtain ⟨x3_1, x4_1, rfl, HA, HK1, HO_3, HB⟩ := hrel
    cases gk with
    | zero => exact absurd HA.out (by simp [laws_toMatcherS.l0])
    | succ k1 =>
     have H := HA.out
     clear HA
     simp only [laws_toMatcherS.l0] at H
     by_cases c6 : x4_1 < (l0.length : Int)
     ·rw [if_pos c6] at H
      have c6b0 : decide (x4_1 < (l0.length : Int)) = true := decide_eq_true c6
      clear c6
      by_cases c7 : 0 ≤ x4_1
      ·rw [if_pos c7] at H
       have c7b0 : decide (0 ≤ x4_1) = true := decide_eq_true c7
       clear c7
       replace H := Option.bind_eq_some_iff.mp H
       obtain ⟨⟨t1005, t1006, t1007⟩, A80, H⟩ := H
       replace H : (if x4_1 < (x3_1.length : Int) then (laws_toMatcherS.l0 k1 l0 (x3_1.set (x4_1 : Int).toNat (⟨t1005, t1006, t1007⟩ : S46)) (wrap64 (x4_1 + 1))) else (none)) = some r := H
       have A8 := am_ A80
       clear A80
       by_cases c9 : x4_1 < (x3_1.length : Int)
       ·rw [if_pos c9] at H
        have c9b0 : decide (x4_1 < (x3_1.length : Int)) = true := decide_eq_true c9
        clear c9
        obtain ⟨y1008, hy1008⟩ : ∃ y_ : List (S46), y_ = (x3_1.set (x4_1 : Int).toNat (⟨t1005, t1006, t1007⟩ : S46)) := ⟨_, rfl⟩
        replace H : (laws_toMatcherS.l0 k1 l0 y1008 (wrap64 (x4_1 + 1))) = some r := by first | (rw [hy1008]; with_reducible exact H) | (have H2_ := (Option.bind_some _ _).symm.trans H; rw [hy1008]; with_reducible exact H2_) | (have H2_ := (Option.bind_some _ _).symm.trans H; with_reducible exact H2_) | with_reducible exact H | (rw [hy1008]; exact H) | exact H
        have Ny1008 := am_ hy1008
        clear hy1008
        have H' := am_ H
        clear H
        have p1004 : 0 ≤ (x4_1 : Int) := od_
        have q1004 : x4_1 < (l0.length : Int) := od_
        obtain ⟨ad1004, e1004, hx1004_0, hx1004_1, hx1004_2⟩ := at_T44 HR0.out x4_1 p1004 q1004
        cases e1004
        replace hx1004_0 := kp_ HB hx1004_0
        replace hx1004_1 := kp_ HB hx1004_1
        replace hx1004_2 := kp_ HB hx1004_2
        replace p1004 := eq_true p1004
        replace q1004 := eq_true q1004
        go_wp2_with (first | ((with_reducible refine gate_callee (f := 23) rfl ?_); refine goesL_ (some 20) rfl rfl Tryd.func23 (by kernel_rfl) rfl #[.agg #[.string ((rd_T44 l0 x4_1).f0), .int .i64 ((rd_T44 l0 x4_1).f1), .string ((rd_T44 l0 x4_1).f2)]] rfl ag_ ?_; (with_reducible refine (laws_toMatcher.calls ((rd_T44 l0 x4_1).f0) ((rd_T44 l0 x4_1).f1) ((rd_T44 l0 x4_1).f2) t1005 t1006 t1007 _ A8.out).mono ?_); rintro e w11 ⟨rfl, hb⟩; refine ⟨_, rfl, ?_⟩; replace HO_3 := am_ (Kd.R_below (ro_ HO_3) hb); replace HB := am_ (below_step bl_ hb); (try clear hb); (try clear hb2); (try clear hk); (try clear hi); have p10 : 0 ≤ (x4_1 : Int) := od_; have q10 : (x4_1 : Int) < ((x3_1.length : Int) : Int) := od_; obtain ⟨go10, co10, eo10, gb10, gl10, cl10, HG10⟩ := Kd.R_form HO_3.out (by omega); (first | cases eo10 | (injection eo10 with ea_ en_ ec_; (first | subst ea_ | (injection ea_ with ea_; subst ea_)); subst ec_; clear en_)); have GB10 := am_ gb10; have GG10 := am_ HG10; clear gb10 gl10 HG10; obtain ⟨ce10, hcl10, hM10, hcc10, hfr10⟩ := Kd.R_elem HO_3.out z46 (x4_1 : Int) p10 q10; obtain rfl := k46_openM hM10; have hx10_0 : w11.cell? ⟨go10, (x4_1 : Int).toNat * 3, none⟩ = some (.string ((rd_T46 x3_1 x4_1).f0)) := hcc10 0 _ rfl; have hx10_1 : w11.cell? ⟨go10, (x4_1 : Int).toNat * 3 + 1, none⟩ = some (.int .i64 ((rd_T46 x3_1 x4_1).f1)) := hcc10 1 _ rfl; have hx10_2 : w11.cell? ⟨go10, (x4_1 : Int).toNat * 3 + 2, none⟩ = some (.string ((rd_T46 x3_1 x4_1).f2)) := hcc10 2 _ rfl; have hf10_0 : w11.frozen? ⟨go10, (x4_1 : Int).toNat * 3, none⟩ = false := hfr10 0; have hf10_1 : w11.frozen? ⟨go10, (x4_1 : Int).toNat * 3 + 1, none⟩ = false := hfr10 1; have hf10_2 : w11.frozen? ⟨go10, (x4_1 : Int).toNat * 3 + 2, none⟩ = false := hfr10 2; clear hcl10 hcc10 hfr10 hM10; replace p10 := eq_true p10; replace q10 := eq_true q10; have HX12 := am_ (show Kd.R k46 46 w11 w.heap.size (fun _ => True) (.slice (some ⟨go10, 0, none⟩) x3_1.length co10) x3_1 from (ro_ HO_3)); obtain ⟨ce12, hcl12, hM12, hcc12, hfr12⟩ := Kd.R_elem HX12.out z46 (x4_1 : Int) (od_) (by have h_ : (x4_1 : Int) < ((x3_1.length : Int) : Int) := od_; first | exact h_ | (have e_ := (Kd.R_reads' HO_3.out).1; omega) | simpa using h_); obtain rfl := k46_openM hM12; have HP12 := Kd.R_seg HX12.out (x4_1 : Int) (od_) (by have h_ : (x4_1 : Int) < ((x3_1.length : Int) : Int) := od_; first | exact h_ | (have e_ := (Kd.R_reads' HO_3.out).1; omega) | simpa using h_) (seg := [.string t1005, .int .i64 t1006, .string t1007]) (j := 0) hcl12 hcc12 (show 3 ≤ 3 from by decide) (x' := (⟨t1005, t1006, t1007⟩ : S46)) (k46_mkM _ _ _ (⟨t1005, t1006, t1007⟩ : S46) ) (fun _ hk => hk); have hx12_0 := hcc12 0 _ rfl; (try simp only [show (k46).sz = 3 from rfl, Nat.mul_one, Nat.add_zero] at hx12_0); have hf12_0 := hfr12 0; (try simp only [show (k46).sz = 3 from rfl, Nat.mul_one, Nat.add_zero] at hf12_0); have hx12_1 := hcc12 1 _ rfl; (try simp only [show (k46).sz = 3 from rfl, Nat.mul_one, Nat.add_zero] at hx12_1); have hf12_1 := hfr12 1; (try simp only [show (k46).sz = 3 from rfl, Nat.mul_one, Nat.add_zero] at hf12_1); have hx12_2 := hcc12 2 _ rfl; (try simp only [show (k46).sz = 3 from rfl, Nat.mul_one, Nat.add_zero] at hx12_2); have hf12_2 := hfr12 2; (try simp only [show (k46).sz = 3 from rfl, Nat.mul_one, Nat.add_zero] at hf12_2); clear hcl12 hcc12 hfr12 hM12) | ((with_reducible refine gate_store (t := 46) (p := 21) rfl ?_); refine store_event (t := 46) (p := 21) (v := ?vo_w13) (w1 := (((w11.setCell ⟨go10, (x4_1 : Int).toNat * 3, none⟩ (.string t1005)).setCell ⟨go10, (x4_1 : Int).toNat * 3 + 1, none⟩ (.int .i64 t1006)).setCell ⟨go10, (x4_1 : Int).toNat * 3 + 2, none⟩ (.string t1007))) ?hg ?ho ?hn ?hr ?_; (case ho => rfl); (case hg => rfl); (case hn => rfl); (case hr => first | (go_simp; done) | (go_simp; rfl) | ((try (obtain ⟨_, _, e_⟩ := Kd.R_slice HO1003.out; subst e_)); go_simp; first | done | rfl)); intro w13 hw; have hg : w11.grownBy w13 (some go10) := (by rw [hw]; exact HP12.2); have hp_ : Kd.R k46 46 w13 w.heap.size (fun _ => True) (.slice (some ⟨go10, 0, none⟩) x3_1.length co10) y1008 := (by rw [hw, Ny1008.out]; exact HP12.1); clear HP12; replace HO_3 := am_ (hp_); replace HB := am_ ((by rw [hw]; exact below_set (below_set (below_set (HB.out) GB10.out) GB10.out) GB10.out : Below w.heap.size w w13)); clear hg hw hp_))
        go_roundg k1
        case measure => have := HK1.out; omega
        case rel => exact ⟨(y1008), (wrap64 (x4_1 + 1)), rs_, H', ⟨by have := HK1.out; omega⟩, ⟨ro_ HO_3⟩, ⟨bl_⟩⟩
       ·rw [if_neg c9] at H
        exact absurd H (by simp)
      ·rw [if_neg c7] at H
       exact absurd H (by simp)
     ·rw [if_neg c6] at H
      have c6b0 : decide (x4_1 < (l0.length : Int)) = false := decide_eq_false c6
      clear c6
      obtain rfl := Option.some.inj H
      go_wp2
      go_ret
      exact ⟨_, rf_, by (with_reducible repeat (first | apply Kd.R_alloc | apply Kd.R_drewN | apply Kd.R_drew)); exact HO_3.out, bl_⟩
  ·rw [if_neg c3] at H
   exact absurd H (by simp)
 ·rw [if_neg c2] at H
  exact absurd H (by simp)

/-! ### laws_FnExactMatchersText: function 3 -/
def laws_FnExactMatchersText.f (k : Nat) (l0 : List (S44)) : Option (Bool) := (laws_szMatcherS.f k l0 1048576).bind fun t1001 => (if t1001 < 0 then (some true) else ((laws_toMatcherS.f k l0).bind fun t1002 => ((spec_MatchersText.f k t1002).bind fun t1005 => ((laws_toMatcherS.f k l0).bind fun t1006 => ((impl_MatchersText.f k t1006).bind fun t1009 => (if t1009.toList = t1005.toList then ((laws_toMatcherS.f k l0).bind fun t1010 => ((laws_eqMatcherS.f k t1006 t1010).bind fun t1013 => (if t1013 = true then (some true) else (none)))) else (none)))))))
theorem laws_FnExactMatchersText.mono : ∀ a0 k, LeO (laws_FnExactMatchersText.f k a0) (laws_FnExactMatchersText.f (k + 1) a0) := by
 intro a0 k
 unfold laws_FnExactMatchersText.f
 repeat' first
   | with_reducible first | exact impl_MatchersText.mono _ _ | exact laws_eqMatcherS.mono _ _ _ | exact laws_szMatcherS.mono _ _ _ | exact laws_toMatcherS.mono _ _ | exact spec_MatchersText.mono _ _ | exact LeO.refl _ | exact LeO.none _ | refine LeO.ite ?_ ?_ | refine LeO.bind ?_ (fun _ => ?_)
   | exact impl_MatchersText.mono _ _
   | exact laws_eqMatcherS.mono _ _ _
   | exact laws_szMatcherS.mono _ _ _
   | exact laws_toMatcherS.mono _ _
   | exact spec_MatchersText.mono _ _
   | exact LeO.none _
   | refine LeO.ite ?_ ?_
   | refine LeO.bind ?_ (fun _ => ?_)
set_option maxHeartbeats 8000000 in
set_option maxRecDepth 100000 in
theorem laws_FnExactMatchersText.calls (k : Nat) (A0 : Option Addr) (c0 : Nat) (l0 : List (S44)) (r : Bool) (w : World) (hr0 : Kd.C k44 w A0 l0.length l0) (hc0 : l0.length ≤ c0) (h : laws_FnExactMatchersText.f k l0 = some r) (hT1 : Tg1 w := by exact Tg1.below hT1 bg_) :
  Calls Tryd.prog 3 #[.slice A0 l0.length c0] w fun e w' => e = .returned (.bool r) ∧ Below w.heap.size w w' := by
 have HR0 := am_ hr0
 have HC0 := am_ hc0
 clear hr0 hc0
 have HB := am_ (Below.refl w.heap.size w)
 have H : ((laws_szMatcherS.f k l0 1048576).bind fun t1001 => (if t1001 < 0 then (some true) else ((laws_toMatcherS.f k l0).bind fun t1002 => ((spec_MatchersText.f k t1002).bind fun t1005 => ((laws_toMatcherS.f k l0).bind fun t1006 => ((impl_MatchersText.f k t1006).bind fun t1009 => (if t1009.toList = t1005.toList then ((laws_toMatcherS.f k l0).bind fun t1010 => ((laws_eqMatcherS.f k t1006 t1010).bind fun t1013 => (if t1013 = true then (some true) else (none)))) else (none)))))))) = some r := h
 clear h
 replace H := Option.bind_eq_some_iff.mp H
 obtain ⟨t1001, A20, H⟩ := H
 replace H : (if t1001 < 0 then (some true) else ((laws_toMatcherS.f k l0).bind fun t1002 => ((spec_MatchersText.f k t1002).bind fun t1005 => ((laws_toMatcherS.f k l0).bind fun t1006 => ((impl_MatchersText.f k t1006).bind fun t1009 => (if t1009.toList = t1005.toList then ((laws_toMatcherS.f k l0).bind fun t1010 => ((laws_eqMatcherS.f k t1006 t1010).bind fun t1013 => (if t1013 = true then (some true) else (none)))) else (none))))))) = some r := H
 have A2 := am_ A20
 clear A20
 by_cases c3 : t1001 < 0
 ·rw [if_pos c3] at H
  have c3b0 : decide (t1001 < 0) = true := decide_eq_true c3
  clear c3
  obtain rfl := Option.some.inj H
  go_enter Tryd.func3, Tryd.ntmps3
  go_wp2_with (first | ((with_reducible refine gate_callee (f := 6) rfl ?_); refine goesL_ (some 9) rfl rfl Tryd.func6 (by kernel_rfl) rfl #[.slice A0 l0.length c0, .int .i64 1048576] rfl ag_ ?_; (with_reducible refine (laws_szMatcherS.calls k _ _ l0 1048576 t1001 _ ?side1 ?side2 A2.out).mono ?_); (case side1 => repeat (first | exact HR0.out | (with_reducible refine Kd.C_alloc ?_ _) | (with_reducible refine Kd.C_drewN ?_ _) | (with_reducible refine Kd.C_drew ?_))); (case side2 => exact HC0.out); rintro e w4 ⟨rfl, hb⟩; refine ⟨_, rfl, ?_⟩; replace HB := am_ (below_step bl_ hb); (try clear hb); (try clear hb2); (try clear hk); (try clear hi)))
  go_ret
  exact ⟨rf_, bl_⟩
 ·rw [if_neg c3] at H
  have c3b0 : decide (t1001 < 0) = false := decide_eq_false c3
  clear c3
  replace H := Option.bind_eq_some_iff.mp H
  obtain ⟨t1002, A50, H⟩ := H
  replace H : ((spec_MatchersText.f k t1002).bind fun t1005 => ((laws_toMatcherS.f k l0).bind fun t1006 => ((impl_MatchersText.f k t1006).bind fun t1009 => (if t1009.toList = t1005.toList then ((laws_toMatcherS.f k l0).bind fun t1010 => ((laws_eqMatcherS.f k t1006 t1010).bind fun t1013 => (if t1013 = true then (some true) else (none)))) else (none))))) = some r := H
  have A5 := am_ A50
  clear A50
  replace H := Option.bind_eq_some_iff.mp H
  obtain ⟨t1005, A60, H⟩ := H
  replace H : ((laws_toMatcherS.f k l0).bind fun t1006 => ((impl_MatchersText.f k t1006).bind fun t1009 => (if t1009.toList = t1005.toList then ((laws_toMatcherS.f k l0).bind fun t1010 => ((laws_eqMatcherS.f k t1006 t1010).bind fun t1013 => (if t1013 = true then (some true) else (none)))) else (none)))) = some r := H
  have A6 := am_ A60
  clear A60
  replace H := Option.bind_eq_some_iff.mp H
  obtain ⟨t1006, A70, H⟩ := H
  replace H : ((impl_MatchersText.f k t1006).bind fun t1009 => (if t1009.toList = t1005.toList then ((laws_toMatcherS.f k l0).bind fun t1010 => ((laws_eqMatcherS.f k t1006 t1010).bind fun t1013 => (if t1013 = true then (some true) else (none)))) else (none))) = some r := H
  have A7 := am_ A70
  clear A70
  replace H := Option.bind_eq_some_iff.mp H
  obtain ⟨t1009, A80, H⟩ := H
  replace H : (if t1009.toList = t1005.toList then ((laws_toMatcherS.f k l0).bind fun t1010 => ((laws_eqMatcherS.f k t1006 t1010).bind fun t1013 => (if t1013 = true then (some true) else (none)))) else (none)) = some r := H
  have A8 := am_ A80
  clear A80
  by_cases c9 : t1009.toList = t1005.toList
  ·rw [if_pos c9] at H
   have c9b0 : (t1009.toList == t1005.toList) = true := beq_iff_eq.mpr c9
   have c9b1 : (t1009.toList != t1005.toList) = false := bne_eq_false_iff_eq.mpr c9
   clear c9
   replace H := Option.bind_eq_some_iff.mp H
   obtain ⟨t1010, A100, H⟩ := H
   replace H : ((laws_eqMatcherS.f k t1006 t1010).bind fun t1013 => (if t1013 = true then (some true) else (none))) = some r := H
   have A10 := am_ A100
   clear A100
   replace H := Option.bind_eq_some_iff.mp H
   obtain ⟨t1013, A110, H⟩ := H
   replace H : (if t1013 = true then (some true) else (none)) = some r := H
   have A11 := am_ A110
   clear A110
   by_cases c12 : t1013 = true
   ·subst c12
    have H1 : (some true) = some r := by rw [if_pos rfl] at H; exact H
    clear H
    have H := H1
    clear H1
    obtain rfl := Option.some.inj H
    go_enter Tryd.func3, Tryd.ntmps3
    go_wp2_with (first | ((with_reducible refine gate_callee (f := 6) rfl ?_); refine goesL_ (some 9) rfl rfl Tryd.func6 (by kernel_rfl) rfl #[.slice A0 l0.length c0, .int .i64 1048576] rfl ag_ ?_; (with_reducible refine (laws_szMatcherS.calls k _ _ l0 1048576 t1001 _ ?side1 ?side2 A2.out).mono ?_); (case side1 => repeat (first | exact HR0.out | (with_reducible refine Kd.C_alloc ?_ _) | (with_reducible refine Kd.C_drewN ?_ _) | (with_reducible refine Kd.C_drew ?_))); (case side2 => exact HC0.out); rintro e w13 ⟨rfl, hb⟩; refine ⟨_, rfl, ?_⟩; replace HB := am_ (below_step bl_ hb); (try clear hb); (try clear hb2); (try clear hk); (try clear hi)) | ((with_reducible refine gate_callee (f := 8) rfl ?_); refine goesL_ (some 13) rfl rfl Tryd.func8 (by kernel_rfl) rfl #[.slice A0 l0.length c0] rfl ag_ ?_; (with_reducible refine (laws_toMatcherS.calls k _ _ l0 t1002 _ ?side1 ?side2 A5.out).mono ?_); (case side1 => exact cc_ (Kd.C_below HR0.out HB.out)); (case side2 => exact HC0.out); rintro e w14 ⟨v1003, rfl, ho0, hb⟩; refine ⟨_, rfl, ?_⟩; have HO1004 := am_ (Kd.R_lower ho0 (below_size bl_)); replace HB := am_ (below_step bl_ hb); (try clear hb); (try clear hb2); (try clear hk); (try clear hi); (try clear ho0); obtain ⟨Ao15, co15, eo15⟩ := Kd.R_slice HO1004.out; subst eo15) | ((with_reducible refine gate_callee (f := 7) rfl ?_); refine goesL_ (some 14) rfl rfl Tryd.func7 (by kernel_rfl) rfl #[.slice Ao15 t1002.length co15] rfl ag_ ?_; (with_reducible refine (spec_MatchersText.calls k _ _ t1002 t1005 _ ?side1 ?side2 A6.out).mono ?_); (case side1 => exact cc_ (Kd.R_reads' HO1004.out).2.2); (case side2 => exact (Kd.R_reads' HO1004.out).2.1); rintro e w16 ⟨rfl, hb⟩; refine ⟨_, rfl, ?_⟩; replace HO1004 := am_ (Kd.R_below (ro_ HO1004) hb); replace HB := am_ (below_step bl_ hb); (try clear hb); (try clear hb2); (try clear hk); (try clear hi)) | ((with_reducible refine gate_callee (f := 8) rfl ?_); refine goesL_ (some 16) rfl rfl Tryd.func8 (by kernel_rfl) rfl #[.slice A0 l0.length c0] rfl ag_ ?_; (with_reducible refine (laws_toMatcherS.calls k _ _ l0 t1006 _ ?side1 ?side2 A7.out).mono ?_); (case side1 => exact cc_ (Kd.C_below HR0.out HB.out)); (case side2 => exact HC0.out); rintro e w17 ⟨v1007, rfl, ho0, hb⟩; refine ⟨_, rfl, ?_⟩; have HO1008 := am_ (Kd.R_lower (Kd.R_new' ho0 (Kd.R_lt (ro_ HO1004))) (below_size bl_)); replace HO1004 := am_ (Kd.R_elder' (ro_ HO1004) (Kd.R_base ho0) hb); replace HB := am_ (below_step bl_ hb); (try clear hb); (try clear hb2); (try clear hk); (try clear hi); (try clear ho0); obtain ⟨Ao18, co18, eo18⟩ := Kd.R_slice HO1008.out; subst eo18) | ((with_reducible refine gate_callee (f := 9) rfl ?_); refine goesL_ (some 18) rfl rfl Tryd.func9 (by kernel_rfl) rfl #[.slice Ao18 t1006.length co18] rfl ag_ ?_; (with_reducible refine (impl_MatchersText.calls k _ _ t1006 t1009 _ ?side1 ?side2 A8.out).mono ?_); (case side1 => exact cc_ (Kd.R_reads' HO1008.out).2.2); (case side2 => exact (Kd.R_reads' HO1008.out).2.1); rintro e w19 ⟨rfl, hb⟩; refine ⟨_, rfl, ?_⟩; replace HO1004 := am_ (Kd.R_below (ro_ HO1004) hb); replace HO1008 := am_ (Kd.R_below (ro_ HO1008) hb); replace HB := am_ (below_step bl_ hb); (try clear hb); (try clear hb2); (try clear hk); (try clear hi)) | ((with_reducible refine gate_callee (f := 8) rfl ?_); refine goesL_ (some 24) rfl rfl Tryd.func8 (by kernel_rfl) rfl #[.slice A0 l0.length c0] rfl ag_ ?_; (with_reducible refine (laws_toMatcherS.calls k _ _ l0 t1010 _ ?side1 ?side2 A10.out).mono ?_); (case side1 => exact cc_ (Kd.C_below HR0.out HB.out)); (case side2 => exact HC0.out); rintro e w20 ⟨v1011, rfl, ho0, hb⟩; refine ⟨_, rfl, ?_⟩; have HO1012 := am_ (Kd.R_lower (Kd.R_new' (Kd.R_new' ho0 (Kd.R_lt (ro_ HO1004))) (Kd.R_lt (ro_ HO1008))) (below_size bl_)); replace HO1004 := am_ (Kd.R_elder' (ro_ HO1004) (Kd.R_base ho0) hb); replace HO1008 := am_ (Kd.R_elder' (ro_ HO1008) (Kd.R_base ho0) hb); replace HB := am_ (below_step bl_ hb); (try clear hb); (try clear hb2); (try clear hk); (try clear hi); (try clear ho0); obtain ⟨Ao21, co21, eo21⟩ := Kd.R_slice HO1012.out; subst eo21) | ((with_reducible refine gate_callee (f := 10) rfl ?_); refine goesL_ (some 25) rfl rfl Tryd.func10 (by kernel_rfl) rfl #[.slice Ao18 t1006.length co18, .slice Ao21 t1010.length co21] rfl ag_ ?_; (with_reducible refine (laws_eqMatcherS.calls k _ _ t1006 _ _ t1010 true _ ?side1 ?side2 ?side3 ?side4 A11.out).mono ?_); (case side1 => exact cc_ (Kd.R_reads' HO1008.out).2.2); (case side2 => exact (Kd.R_reads' HO1008.out).2.1); (case side3 => exact cc_ (Kd.R_reads' HO1012.out).2.2); (case side4 => exact (Kd.R_reads' HO1012.out).2.1); rintro e w22 ⟨rfl, hb⟩; refine ⟨_, rfl, ?_⟩; replace HO1004 := am_ (Kd.R_below (ro_ HO1004) hb); replace HO1008 := am_ (Kd.R_below (ro_ HO1008) hb); replace HO1012 := am_ (Kd.R_below (ro_ HO1012) hb); replace HB := am_ (below_step bl_ hb); (try clear hb); (try clear hb2); (try clear hk); (try clear hi)))
    go_ret
    exact ⟨rf_, bl_⟩
   ·replace c12 := Bool.eq_false_iff.mpr c12
    subst c12
    have H1 : (none) = some r := by rw [if_neg (show ¬ (false = true) by decide)] at H; exact H
    clear H
    have H := H1
    clear H1
    exact absurd H (by simp)
  ·rw [if_neg c9] at H
   exact absurd H (by simp)

end Go.Proofs.YtknlgignjbghkaaDoor.Pr
