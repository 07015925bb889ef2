/- Functions of the given program as plain Lean functions, and that the machine's calls come to them; written by a program of this session; no condition but those that each theorem states. -/
import Derived.Test.YtjapdjkckhcelaaMk
import Derived.Test.YtjapdjkckhcelaaPrx0
import Derived.Test.YtjapdjkckhcelaaPrxgd801bn1
namespace Go.Proofs.Ytjapdjkckhcelaa.Pr
open Go.RowKit Go.Proofs.YtjapdjkckhcelaaW.PrintWords Go.Proofs.YtjapdjkckhcelaaW.PrintLast Go.Proofs.YtjapdjkckhcelaaW.PrintMore
attribute [local go_sem] max2_int min2_int max_two min_two max_three min_three max_four min_four   -- for this text's walks alone
set_option linter.unusedVariables false
set_option linter.unusedSimpArgs false

/-! ### impl_AddBits: function 21 -/
mutual
def impl_AddBits.j0 : Nat → Int → Int → Bool → List Int → Int → Option (List Int × Int)
 | 0, _, _, _, _, _ => none
 | k + 1, x1, x2, x26, x1002000, x1002001 => if x26 = true then (some (([] : List Int), 0)) else (if 0 ≤ (wrap64 ((x1002000.length : Int) + 9)) then (if (wrap64 ((x1002000.length : Int) + 9) : Int).toNat ≤ 281474976710656 then ((some (([] : List Int) : List Int)).bind fun y1004 => (if y1004.length + x1002000.length < 140737488355328 then (impl_AddBits.l0 k x1 (wrap64 (x2 - 1)) (y1004 ++ x1002000) x1002001) else (none))) else (none)) else (none))
def impl_AddBits.l0 : Nat → Int → Int → List Int → Int → Option (List Int × Int)
 | 0, _, _, _, _ => none
 | k + 1, x1, x8, x1011000, x1011001 => if x8 ≥ 0 then (if (Int.tmod x1011001 8) = 0 then (if x1011000.length < 140737488355328 then ((some (x1011000 ++ [0] : List Int)).bind fun y1011 => (if 0 ≤ x8 then (if (Go.bits .and .u64 (shr .u64 (IntKind.u64.wrap (x1)) x8) 1) = 1 then (if 0 ≤ (wrap64 (Int.tdiv x1011001 8)) then (if (wrap64 (Int.tdiv x1011001 8)) < (y1011.length : Int) then (if 0 ≤ (Int.tmod x1011001 8) then (impl_AddBits.l0 k x1 (wrap64 (x8 - 1)) (y1011.set ((wrap64 (Int.tdiv x1011001 8)) : Int).toNat (Go.bits .or .u8 (rd y1011 (wrap64 (Int.tdiv x1011001 8))) (shr .u8 128 (Int.tmod x1011001 8)))) (wrap64 (x1011001 + 1))) else (none)) else (none)) else (none)) else (impl_AddBits.l0 k x1 (wrap64 (x8 - 1)) y1011 (wrap64 (x1011001 + 1)))) else (none))) else (none)) else (if 0 ≤ x8 then (if (Go.bits .and .u64 (shr .u64 (IntKind.u64.wrap (x1)) x8) 1) = 1 then (if 0 ≤ (wrap64 (Int.tdiv x1011001 8)) then (if (wrap64 (Int.tdiv x1011001 8)) < (x1011000.length : Int) then (if 0 ≤ (Int.tmod x1011001 8) then (impl_AddBits.l0 k x1 (wrap64 (x8 - 1)) (x1011000.set ((wrap64 (Int.tdiv x1011001 8)) : Int).toNat (Go.bits .or .u8 (rd x1011000 (wrap64 (Int.tdiv x1011001 8))) (shr .u8 128 (Int.tmod x1011001 8)))) (wrap64 (x1011001 + 1))) else (none)) else (none)) else (none)) else (impl_AddBits.l0 k x1 (wrap64 (x8 - 1)) x1011000 (wrap64 (x1011001 + 1)))) else (none))) else (some (x1011000, x1011001))
end
def impl_AddBits.f (k : Nat) (l0_0 : List Int) (a0_1 : Int) (a1 : Int) (a2 : Int) : Option (List Int × Int) := (impl_GoodBits.f l0_0 a0_1).bind fun t1003 => (if t1003 = true then (if a2 < 0 then (impl_AddBits.j0 k a1 a2 true l0_0 a0_1) else (if a2 > 64 then (impl_AddBits.j0 k a1 a2 true l0_0 a0_1) else (impl_AddBits.j0 k a1 a2 (decide ((wrap64 (a0_1 + a2)) > 80000)) l0_0 a0_1))) else (impl_AddBits.j0 k a1 a2 true l0_0 a0_1))
theorem impl_AddBits.mono_l : ∀ k, (∀ y0 y1 y2 y3 y4, LeO (impl_AddBits.j0 k y0 y1 y2 y3 y4) (impl_AddBits.j0 (k + 1) y0 y1 y2 y3 y4)) ∧ (∀ y0 y1 y2 y3, LeO (impl_AddBits.l0 k y0 y1 y2 y3) (impl_AddBits.l0 (k + 1) y0 y1 y2 y3))
 | 0 => ⟨fun _ _ _ _ _ r h => by simp [impl_AddBits.j0] at h, fun _ _ _ _ r h => by simp [impl_AddBits.l0] at h⟩
 | k + 1 => by
  obtain ⟨ih0, ih1⟩ := impl_AddBits.mono_l k
  refine ⟨?_, ?_⟩
  ·intro y0 y1 y2 y3 y4
   unfold impl_AddBits.j0
   repeat' first
   | with_reducible first | exact ih0 _ _ _ _ _ | exact ih1 _ _ _ _ | exact LeO.refl _ | exact LeO.none _ | refine LeO.ite ?_ ?_ | refine LeO.bind ?_ (fun _ => ?_)
   | exact ih0 _ _ _ _ _
   | exact ih1 _ _ _ _
   | exact LeO.none _
   | refine LeO.ite ?_ ?_
   | refine LeO.bind ?_ (fun _ => ?_)
  ·intro y0 y1 y2 y3
   unfold impl_AddBits.l0
   repeat' first
   | with_reducible first | exact ih0 _ _ _ _ _ | exact ih1 _ _ _ _ | exact LeO.refl _ | exact LeO.none _ | refine LeO.ite ?_ ?_ | refine LeO.bind ?_ (fun _ => ?_)
   | exact ih0 _ _ _ _ _
   | exact ih1 _ _ _ _
   | exact LeO.none _
   | refine LeO.ite ?_ ?_
   | refine LeO.bind ?_ (fun _ => ?_)
theorem impl_AddBits.mono : ∀ a0 a1 a2 a3 k, LeO (impl_AddBits.f k a0 a1 a2 a3) (impl_AddBits.f (k + 1) a0 a1 a2 a3) := by
 intro a0 a1 a2 a3 k
 obtain ⟨ih0, ih1⟩ := impl_AddBits.mono_l k
 unfold impl_AddBits.f
 repeat' first
   | with_reducible first | exact ih0 _ _ _ _ _ | exact ih1 _ _ _ _ | exact LeO.refl _ | exact LeO.none _ | refine LeO.ite ?_ ?_ | refine LeO.bind ?_ (fun _ => ?_)
   | exact ih0 _ _ _ _ _
   | exact ih1 _ _ _ _
   | exact LeO.none _
   | refine LeO.ite ?_ ?_
   | refine LeO.bind ?_ (fun _ => ?_)
def impl_AddBits.T3 : Bool × List (List Nat × List Nat) := (true, [([], []), ([0], [0]), ([1], [1]), ([2], [2]), ([3], [3]), ([], []), ([5], [5]), ([4, 6], [4, 6]), ([], []), ([8], [8]), ([7, 9], [7, 9]), ([], []), ([11, 10, 7, 0, 1, 2, 3, 4, 5, 6, 7, 8, 9, 10, 11], [10, 11])])
def impl_AddBits.B3 : List Nat := [0, 1, 3, 7, 15, 0, 32, 127, 0, 256, 1023, 0, 4095]
theorem impl_AddBits.tab3 : rtab .any (opsOf Try.f21 3) = impl_AddBits.T3 := by kernel_rfl
theorem impl_AddBits.bits3 : waitsOk impl_AddBits.T3.2 impl_AddBits.B3 = true := by kernel_rfl
def impl_AddBits.T10 : Bool × List (List Nat × List Nat) := (true, [([], []), ([0], [0]), ([], []), ([2], [2]), ([3], [3]), ([1, 4], [1, 4]), ([5], [5]), ([], []), ([7], [7]), ([8], [8]), ([9], [9]), ([6, 10], [6, 10]), ([1, 4, 0, 1, 2, 3, 4, 5, 6, 7, 8, 9, 10, 11], [1, 4]), ([12, 11, 0, 1, 2, 3, 4, 5, 6, 7, 8, 9, 10, 11], [11, 12])])
def impl_AddBits.B10 : List Nat := [0, 1, 0, 4, 12, 31, 63, 0, 128, 384, 896, 2047, 4095, 8191]
theorem impl_AddBits.tab10 : rtab .any (opsOf Try.f21 10) = impl_AddBits.T10 := by kernel_rfl
theorem impl_AddBits.bits10 : waitsOk impl_AddBits.T10.2 impl_AddBits.B10 = true := by kernel_rfl
set_option maxHeartbeats 8000000 in
set_option maxRecDepth 100000 in
theorem impl_AddBits.calls (k : Nat) (A0_0 : Option Addr) (c0_0 : Nat) (l0_0 : List Int) (a0_1 : Int) (a1 : Int) (a2 : Int) (r1 : List Int) (r2 : Int) (w : World) (hr0_0 : Kd.C (Kd.int .u8) w A0_0 l0_0.length l0_0) (hc0_0 : l0_0.length ≤ c0_0) (h : impl_AddBits.f k l0_0 a0_1 a1 a2 = some (r1, r2)) :
  Calls Try.prog 21 #[.agg #[.slice A0_0 l0_0.length c0_0, .int .i64 a0_1], .int .i64 a1, .int .i64 a2] w fun e w' => ∃ v0_ : Value, e = .returned (.agg #[v0_, .int .i64 r2]) ∧ Kd.R (Kd.int .u8) 5 w' w.heap.size (fun _ => True) v0_ r1 ∧ Below w.heap.size w w' := by
 have hu28 := Try.underlying28
 have HR0_0 := am_ hr0_0
 have HC0_0 := am_ hc0_0
 clear hr0_0 hc0_0
 have HB := am_ (Below.refl w.heap.size w)
 have H : ((impl_GoodBits.f l0_0 a0_1).bind fun t1003 => (if t1003 = true then (if a2 < 0 then (impl_AddBits.j0 k a1 a2 true l0_0 a0_1) else (if a2 > 64 then (impl_AddBits.j0 k a1 a2 true l0_0 a0_1) else (impl_AddBits.j0 k a1 a2 (decide ((wrap64 (a0_1 + a2)) > 80000)) l0_0 a0_1))) else (impl_AddBits.j0 k a1 a2 true l0_0 a0_1))) = some (r1, r2) := h
 clear h
 have HC4 := am_ H
 clear H
 go_enter Try.func21, Try.ntmps21
 go_upto_region 1 with (first | ((with_reducible refine gate_dst (N := 3) rfl ?_); refine box_event ?hg (N := 3) ?hd (cs := #[.slice A0_0 l0_0.length c0_0, .int .i64 a0_1]) (t := 28) ?hr ?_; (case hd => rfl); (case hg => rfl); (case hr => first | (go_simp; done) | (go_simp; rfl)); intro gb1001 hg w5 hbox hb; have n0_ := am_ (below_step bl_ hb); have n1_ := am_ (hbox); have n2_ := am_ (gs_ hg : w.heap.size ≤ gb1001); have n3_ := n2_; clear HB; have HB := n0_; have BK1001 := n1_; have GW1001 := n2_; have GE1001 := n3_; clear n0_ n1_ n2_ n3_; clear hb hbox hg) | ((with_reducible refine gate_dst (N := 6) rfl ?_); refine box_event ?hg (N := 6) ?hd (cs := #[.slice none 0 0, .int .i64 0]) (t := 28) ?hr ?_; (case hd => rfl); (case hg => rfl); (case hr => first | (go_simp; done) | (go_simp; rfl)); intro gb1002 hg w6 hbox hb; have n0_ := am_ (blk_below (g := gb1001) (vk_ BK1001) hb); have n1_ := am_ (below_step bg_ hb); have n2_ := am_ (hbox); have n3_ := am_ (gg_ hg : w.heap.size ≤ gb1002); have n4_ := n3_; have n5_ := am_ ((by rw [hg]; exact Nat.ne_of_lt (blk_lt (g := gb1001) (o := .cells #[.slice A0_0 l0_0.length c0_0, .int .i64 a0_1] 28 (0, 0)) (vk_ BK1001)) : gb1001 ≠ gb1002)); have n6_ := am_ ((by rw [hg]; exact Nat.ne_of_gt (blk_lt (g := gb1001) (o := .cells #[.slice A0_0 l0_0.length c0_0, .int .i64 a0_1] 28 (0, 0)) (vk_ BK1001)) : gb1002 ≠ gb1001)); clear BK1001; clear HB; have BK1001 := n0_; have HB := n1_; have BK1002 := n2_; have GW1002 := n3_; have GE1002 := n4_; have NB1001_1002 := n5_; have NB1002_1001 := n6_; clear n0_ n1_ n2_ n3_ n4_ n5_ n6_; clear hb hbox hg))
 (try simp only [Act.put, List.setIfInBounds_toArray, List.set_cons_zero, List.set_cons_succ])
 go_cut [26] (fun v26 wc => ∃ (kq : Nat) (x26_3 : Bool), v26 = .bool x26_3 ∧ Aside0 (impl_AddBits.j0 kq a1 a2 x26_3 l0_0 a0_1 = some (r1, r2)) ∧ Aside0 (kq ≤ k) ∧ Aside0 (wc.heap[gb1001]? = some (.cells #[(.slice A0_0 l0_0.length c0_0), .int .i64 a0_1] 28 (0, 0))) ∧ Aside0 (wc.heap[gb1002]? = some (.cells #[(.slice none 0 0), .int .i64 0] 28 (0, 0))) ∧ Aside0 (Below w.heap.size w wc))
 case first =>
  have H := HC4.out
  clear HC4
  replace H := Option.bind_eq_some_iff.mp H
  obtain ⟨t1003, A70, H⟩ := H
  replace H : (if t1003 = true then (if a2 < 0 then (impl_AddBits.j0 k a1 a2 true l0_0 a0_1) else (if a2 > 64 then (impl_AddBits.j0 k a1 a2 true l0_0 a0_1) else (impl_AddBits.j0 k a1 a2 (decide ((wrap64 (a0_1 + a2)) > 80000)) l0_0 a0_1))) else (impl_AddBits.j0 k a1 a2 true l0_0 a0_1)) = some (r1, r2) := H
  have A7 := am_ A70
  clear A70
  by_cases c8 : t1003 = true
  ·subst c8
   have H1 : (if a2 < 0 then (impl_AddBits.j0 k a1 a2 true l0_0 a0_1) else (if a2 > 64 then (impl_AddBits.j0 k a1 a2 true l0_0 a0_1) else (impl_AddBits.j0 k a1 a2 (decide ((wrap64 (a0_1 + a2)) > 80000)) l0_0 a0_1))) = some (r1, r2) := by rw [if_pos rfl] at H; exact H
   clear H
   have H := H1
   clear H1
   by_cases c9 : a2 < 0
   ·rw [if_pos c9] at H
    have c9b0 : decide (a2 < 0) = true := decide_eq_true c9
    clear c9
    (first | rw [c9b0] | (simp only [i64_w, i32_w]; rw [c9b0]) | skip)
    have H' := am_ H
    clear H
    have hnb10 := NB1001_1002.out
    have hnc10 := NB1002_1001.out
    have hcz11_0 := bc2_0 BK1001
    have hcz11_1 := bc2_1 BK1001
    have hfz11_0 := bf_ BK1001 0
    have hfz11_1 := bf_ BK1001 1
    go_wp2_with (first | ((with_reducible refine gate_callee (f := 66) rfl ?_); refine goesL_ (some 10) rfl rfl Try.func66 (by kernel_rfl) rfl #[.agg #[.slice A0_0 l0_0.length c0_0, .int .i64 a0_1]] rfl ag_ ?_; (with_reducible refine (impl_GoodBits.calls _ _ l0_0 a0_1 true _ ?side1 ?side2 A7.out).mono ?_); (case side1 => exact cc_ (Kd.C_below HR0_0.out HB.out)); (case side2 => exact HC0_0.out); rintro e w12 ⟨rfl, hb⟩; refine ⟨_, rfl, ?_⟩; have n0_ := am_ (blk_below (g := gb1001) (vk_ BK1001) hb); have n1_ := am_ (blk_below (g := gb1002) (vk_ BK1002) hb); have n2_ := am_ (below_step bg_ hb); clear BK1001; clear BK1002; clear HB; have BK1001 := n0_; have BK1002 := n1_; have HB := n2_; clear n0_ n1_ n2_; (try clear hb); (try clear hb2); (try clear hk); (try clear hi)))
    go_meet
    case rel => exact ⟨_, (true), rs_, H', ⟨by first | omega | exact Nat.le_refl _⟩, ⟨vk_ BK1001⟩, ⟨vk_ BK1002⟩, ⟨bg_⟩⟩
   ·rw [if_neg c9] at H
    have c9b0 : decide (a2 < 0) = false := decide_eq_false c9
    clear c9
    (first | rw [c9b0] | (simp only [i64_w, i32_w]; rw [c9b0]) | skip)
    by_cases c13 : a2 > 64
    ·rw [if_pos c13] at H
     have c13b0 : decide (64 < a2) = true := decide_eq_true c13
     clear c13
     have H' := am_ H
     clear H
     have hnb14 := NB1001_1002.out
     have hnc14 := NB1002_1001.out
     have hcz15_0 := bc2_0 BK1001
     have hcz15_1 := bc2_1 BK1001
     have hfz15_0 := bf_ BK1001 0
     have hfz15_1 := bf_ BK1001 1
     go_wp2_with (first | ((with_reducible refine gate_callee (f := 66) rfl ?_); refine goesL_ (some 10) rfl rfl Try.func66 (by kernel_rfl) rfl #[.agg #[.slice A0_0 l0_0.length c0_0, .int .i64 a0_1]] rfl ag_ ?_; (with_reducible refine (impl_GoodBits.calls _ _ l0_0 a0_1 true _ ?side1 ?side2 A7.out).mono ?_); (case side1 => exact cc_ (Kd.C_below HR0_0.out HB.out)); (case side2 => exact HC0_0.out); rintro e w16 ⟨rfl, hb⟩; refine ⟨_, rfl, ?_⟩; have n0_ := am_ (blk_below (g := gb1001) (vk_ BK1001) hb); have n1_ := am_ (blk_below (g := gb1002) (vk_ BK1002) hb); have n2_ := am_ (below_step bg_ hb); clear BK1001; clear BK1002; clear HB; have BK1001 := n0_; have BK1002 := n1_; have HB := n2_; clear n0_ n1_ n2_; (try clear hb); (try clear hb2); (try clear hk); (try clear hi)))
     go_meet
     case rel => exact ⟨_, (true), rs_, H', ⟨by first | omega | exact Nat.le_refl _⟩, ⟨vk_ BK1001⟩, ⟨vk_ BK1002⟩, ⟨bg_⟩⟩
    ·rw [if_neg c13] at H
     have c13b0 : decide (64 < a2) = false := decide_eq_false c13
     clear c13
     have H' := am_ H
     clear H
     have hnb17 := NB1001_1002.out
     have hnc17 := NB1002_1001.out
     have hcz18_0 := bc2_0 BK1001
     have hcz18_1 := bc2_1 BK1001
     have hfz18_0 := bf_ BK1001 0
     have hfz18_1 := bf_ BK1001 1
     go_wp2_with (first | ((with_reducible refine gate_callee (f := 66) rfl ?_); refine goesL_ (some 10) rfl rfl Try.func66 (by kernel_rfl) rfl #[.agg #[.slice A0_0 l0_0.length c0_0, .int .i64 a0_1]] rfl ag_ ?_; (with_reducible refine (impl_GoodBits.calls _ _ l0_0 a0_1 true _ ?side1 ?side2 A7.out).mono ?_); (case side1 => exact cc_ (Kd.C_below HR0_0.out HB.out)); (case side2 => exact HC0_0.out); rintro e w19 ⟨rfl, hb⟩; refine ⟨_, rfl, ?_⟩; have n0_ := am_ (blk_below (g := gb1001) (vk_ BK1001) hb); have n1_ := am_ (blk_below (g := gb1002) (vk_ BK1002) hb); have n2_ := am_ (below_step bg_ hb); clear BK1001; clear BK1002; clear HB; have BK1001 := n0_; have BK1002 := n1_; have HB := n2_; clear n0_ n1_ n2_; (try clear hb); (try clear hb2); (try clear hk); (try clear hi); have hcz20_0 := bc2_0 BK1001; have hcz20_1 := bc2_1 BK1001; have hfz20_0 := bf_ BK1001 0; have hfz20_1 := bf_ BK1001 1))
     go_meet
     case rel => exact ⟨_, (decide ((wrap64 (a0_1 + a2)) > 80000)), rs_, H', ⟨by first | omega | exact Nat.le_refl _⟩, ⟨vk_ BK1001⟩, ⟨vk_ BK1002⟩, ⟨bg_⟩⟩
  ·replace c8 := Bool.eq_false_iff.mpr c8
   subst c8
   have H1 : (impl_AddBits.j0 k a1 a2 true l0_0 a0_1) = some (r1, r2) := by rw [if_neg (show ¬ (false = true) by decide)] at H; exact H
   clear H
   have H := H1
   clear H1
   have H' := am_ H
   clear H
   have hnb21 := NB1001_1002.out
   have hnc21 := NB1002_1001.out
   have hcz22_0 := bc2_0 BK1001
   have hcz22_1 := bc2_1 BK1001
   have hfz22_0 := bf_ BK1001 0
   have hfz22_1 := bf_ BK1001 1
   go_wp2_with (first | ((with_reducible refine gate_callee (f := 66) rfl ?_); refine goesL_ (some 10) rfl rfl Try.func66 (by kernel_rfl) rfl #[.agg #[.slice A0_0 l0_0.length c0_0, .int .i64 a0_1]] rfl ag_ ?_; (with_reducible refine (impl_GoodBits.calls _ _ l0_0 a0_1 false _ ?side1 ?side2 A7.out).mono ?_); (case side1 => exact cc_ (Kd.C_below HR0_0.out HB.out)); (case side2 => exact HC0_0.out); rintro e w23 ⟨rfl, hb⟩; refine ⟨_, rfl, ?_⟩; have n0_ := am_ (blk_below (g := gb1001) (vk_ BK1001) hb); have n1_ := am_ (blk_below (g := gb1002) (vk_ BK1002) hb); have n2_ := am_ (below_step bg_ hb); clear BK1001; clear BK1002; clear HB; have BK1001 := n0_; have BK1002 := n1_; have HB := n2_; clear n0_ n1_ n2_; (try clear hb); (try clear hb2); (try clear hk); (try clear hi)))
   go_meet
   case rel => exact ⟨_, (true), rs_, H', ⟨by first | omega | exact Nat.le_refl _⟩, ⟨vk_ BK1001⟩, ⟨vk_ BK1002⟩, ⟨bg_⟩⟩
 case rest =>
  clear HC4
  try clear c1
  try clear c2
  try clear p2
  try clear c6
  try clear p6
  try clear c8
  try clear c9
  try clear c9b0
  try clear c10
  try clear c13
  try clear c13b0
  try clear c14
  try clear c17
  try clear c21
  try clear hcz11_0
  try clear hcz11_1
  try clear hcz15_0
  try clear hcz15_1
  try clear hcz18_0
  try clear hcz18_1
  try clear hcz20_0
  try clear hcz20_1
  try clear hcz22_0
  try clear hcz22_1
  try clear hfz11_0
  try clear hfz11_1
  try clear hfz15_0
  try clear hfz15_1
  try clear hfz18_0
  try clear hfz18_1
  try clear hfz20_0
  try clear hfz20_1
  try clear hfz22_0
  try clear hfz22_1
  obtain ⟨kq, x26_3, rfl, HA, HJ3, BK1001, BK1002, HB⟩ := hcut
  cases kq with
  | zero => exact absurd HA.out (by simp [impl_AddBits.j0])
  | succ kj3 =>
   have H := HA.out
   clear HA
   simp only [impl_AddBits.j0] at H
   by_cases c24 : x26_3 = true
   ·subst c24
    have H1 : (some (([] : List Int), 0)) = some (r1, r2) := by rw [if_pos rfl] at H; exact H
    clear H
    have H := H1
    clear H1
    simp only [Option.some.injEq, Prod.mk.injEq] at H
    obtain ⟨rfl, rfl⟩ := H
    have hnb25 := NB1002_1001.out
    have hnc25 := NB1001_1002.out
    have hcz26_0 := bc2_0 BK1002
    have hcz26_1 := bc2_1 BK1002
    have hfz26_0 := bf_ BK1002 0
    have hfz26_1 := bf_ BK1002 1
    go_wp2
    refine bodyPost_ret (results_cell_row rfl _ _ gb1002 28 #[.slice none 0 0, .int .i64 0] (0, 0) _ rfl (by (with_reducible repeat (first | refine blk_drewN ?_ _ | refine blk_drew ?_ | refine blk_alloc ?_ _)); refine blk_put (cs := #[.slice none 0 0, .int .i64 0]) ?_ 1 _ rfl; (with_reducible repeat (first | refine blk_drewN ?_ _ | refine blk_drew ?_ | refine blk_alloc ?_ _)); refine blk_put (cs := #[.slice none 0 0, .int .i64 0]) ?_ 0 _ rfl; (with_reducible repeat (first | refine blk_drewN ?_ _ | refine blk_drew ?_ | refine blk_alloc ?_ _)); exact BK1002.out) Try.underlying28 rfl (by kernel_rfl)) rfl ?_
    exact ⟨_, rf_, ni_, bg_⟩
   ·replace c24 := Bool.eq_false_iff.mpr c24
    subst c24
    have H1 : (if 0 ≤ (wrap64 ((l0_0.length : Int) + 9)) then (if (wrap64 ((l0_0.length : Int) + 9) : Int).toNat ≤ 281474976710656 then ((some (([] : List Int) : List Int)).bind fun y1004 => (if y1004.length + l0_0.length < 140737488355328 then (impl_AddBits.l0 kj3 a1 (wrap64 (a2 - 1)) (y1004 ++ l0_0) a0_1) else (none))) else (none)) else (none)) = some (r1, r2) := by rw [if_neg (show ¬ (false = true) by decide)] at H; exact H
    clear H
    have H := H1
    clear H1
    obtain ⟨ji27, hji27⟩ : ∃ j_ : Int, (wrap64 ((l0_0.length : Int) + 9)) = j_ := ⟨_, rfl⟩
    replace H : (if 0 ≤ (ji27) then (if (ji27 : Int).toNat ≤ 281474976710656 then ((some (([] : List Int) : List Int)).bind fun y1004 => (if y1004.length + l0_0.length < 140737488355328 then (impl_AddBits.l0 kj3 a1 (wrap64 (a2 - 1)) (y1004 ++ l0_0) a0_1) else (none))) else (none)) else (none)) = some (r1, r2) := by first | (rw [hji27] at H; exact H) | (simp only [hji27] at H ⊢; exact H)
    have hji27w : (IntKind.i64.wrap ((l0_0.length : Int) + 9)) = ji27 := (i64_w _).trans hji27
    by_cases c28 : 0 ≤ (ji27)
    ·rw [if_pos c28] at H
     have c28b0 := eq_true c28
     have c28b1 : decide (0 ≤ (ji27)) = true := decide_eq_true c28
     clear c28
     by_cases c29 : (ji27 : Int).toNat ≤ 281474976710656
     ·rw [if_pos c29] at H
      have c29b0 := eq_true c29
      have c29b1 : decide ((ji27 : Int).toNat ≤ 281474976710656) = true := decide_eq_true c29
      clear c29
      obtain ⟨y1004, hy1004⟩ : ∃ y_ : List Int, y_ = (([] : List Int)) := ⟨_, rfl⟩
      replace H : (if y1004.length + l0_0.length < 140737488355328 then (impl_AddBits.l0 kj3 a1 (wrap64 (a2 - 1)) (y1004 ++ l0_0) a0_1) else (none)) = some (r1, r2) := by first | (rw [hy1004]; with_reducible exact H) | (have H2_ := (Option.bind_some _ _).symm.trans H; rw [hy1004]; with_reducible exact H2_) | (have H2_ := (Option.bind_some _ _).symm.trans H; with_reducible exact H2_) | with_reducible exact H | (rw [hy1004]; exact H) | exact H
      have Ny1004 := am_ hy1004
      clear hy1004
      by_cases c30 : y1004.length + l0_0.length < 140737488355328
      ·rw [if_pos c30] at H
       have LMc30 := am_ c30
       clear c30
       obtain ⟨y1007, hy1007⟩ : ∃ y_ : List Int, y_ = (y1004 ++ l0_0) := ⟨_, rfl⟩
       replace H : (impl_AddBits.l0 kj3 a1 (wrap64 (a2 - 1)) y1007 a0_1) = some (r1, r2) := by first | (rw [hy1007]; with_reducible exact H) | (have H2_ := (Option.bind_some _ _).symm.trans H; rw [hy1007]; with_reducible exact H2_) | (have H2_ := (Option.bind_some _ _).symm.trans H; with_reducible exact H2_) | with_reducible exact H | (rw [hy1007]; exact H) | exact H
       have Ny1007 := am_ hy1007
       clear hy1007
       have H' := am_ H
       clear H
       try go_wp2
       have n0_ := am_ (blk_drew BK1001.out)
       have n1_ := am_ (blk_drew BK1002.out)
       have n2_ := am_ (below_drew1 HB.out)
       clear BK1001
       clear BK1002
       clear HB
       have BK1001 := n0_
       have BK1002 := n1_
       have HB := n2_
       clear n0_ n1_ n2_
       refine start_ (n := 13) (S := fun w' => w'.cell? ⟨gb1001, 0, none⟩ = some (.slice A0_0 l0_0.length c0_0) ∧ w'.cell? ⟨gb1001, 1, none⟩ = some (.int .i64 a0_1)) (ds := []) (bz 13 0) (by kernel_rfl) rfl rfl ⟨(blk_cell BK1001.out 0).trans rfl, (blk_cell BK1001.out 1).trans rfl⟩ (fun hHeld => ?_); refine with_tabW impl_AddBits.tab3 impl_AddBits.bits3 (fun HT_ HW_ => ?_)
       generalize wc.drew = w31 at BK1001 BK1002 HB hHeld ⊢
       refine pz_ 0 28 1 ?_
       refine pz_ 5 33 33 ?_
       refine pz_ 8 36 289 ?_
       refine tz_ 1 29 291 ?_
       refine pz_ 2 30 295 ?_
       refine pz_ 3 31 303 ?_
       refine tz_ 6 34 367 ?_
       refine tz_ 9 37 879 ?_
       refine join_ (σ := Value × Value × Nat) 1 (bz 13 4095) (fun s_ => [(32, s_.1), (35, s_.2.1), (7, .pointer (some ⟨s_.2.2, 0, none⟩)), (38, .agg #[s_.2.1, .int .i64 a0_1])]) (fun s_ w' => (w'.cell? ⟨gb1001, 0, none⟩ = some (.slice A0_0 l0_0.length c0_0) ∧ w'.cell? ⟨gb1001, 1, none⟩ = some (.int .i64 a0_1)) ∧ (Kd.R (Kd.int .u8) 5 w' w.heap.size (fun _ => True) s_.2.1 y1007) ∧ (w'.heap[gb1001]? = some (.cells #[.slice A0_0 l0_0.length c0_0, .int .i64 a0_1] 28 (0, 0))) ∧ (w'.heap[gb1002]? = some (.cells #[.slice none 0 0, .int .i64 0] 28 (0, 0))) ∧ (w'.heap[s_.2.2]? = some (.cells #[.slice none 0 0, .int .i64 0] 28 (0, 0))) ∧ (w.heap.size ≤ s_.2.2) ∧ (w.heap.size ≤ s_.2.2) ∧ (gb1001 ≠ s_.2.2) ∧ (s_.2.2 ≠ gb1001) ∧ (gb1002 ≠ s_.2.2) ∧ (s_.2.2 ≠ gb1002) ∧ (Below w.heap.size w w')) ?_ ?_
       rotate_left
       ·intro hCont
        refine two_ (i := 4) (j := 11) (Ni := some 32) (Nj := some 7) (bz 13 895) (bz 13 2927) rfl rfl rfl rfl (two_of HT_.out (by kernel_rfl)) (by decide) (by decide) (fun K hK => ?_) (fun K hK => ?_)
        ·skip
         refine Kd.R_mcap_step (Kd.int .u8) _ 5 (by rfl) (N := 32) rfl 22 _ _ rfl ji27 rfl rfl Try.underlying22 (.int .u8 0) 1 info5 rfl (by decide) (by omega) 0 (ok := fun _ => True) (okp := fun _ => True) rfl (fun _ hk => hk) trivial (od_) (Nat.le_trans (Nat.mul_le_mul_right _ (od_ : ji27.toNat ≤ 281474976710656)) (by omega)) (Below.refl _ _) (Nat.le_refl _) ?_
         intro v1005 w32 ho33 hb hg_ hnew_
         clear hg_ hnew_
         (first | rw [← Ny1004.out] at ho33 | (simp only [Int.reduceToNat] at ho33; rw [← Ny1004.out] at ho33))
         have n0_ := am_ (Kd.R_lower ho33 (below_size bg_))
         have n1_ := am_ (blk_below (g := gb1001) (vk_ BK1001) hb)
         have n2_ := am_ (blk_below (g := gb1002) (vk_ BK1002) hb)
         have n3_ := am_ (below_step bg_ hb)
         clear BK1001
         clear BK1002
         clear HB
         have HO1006 := n0_
         have BK1001 := n1_
         have BK1002 := n2_
         have HB := n3_
         clear n0_ n1_ n2_ n3_
         clear hb ho33
         refine hK.out _ _ ⟨(blk_cell BK1001.out 0).trans rfl, (blk_cell BK1001.out 1).trans rfl⟩ (fun hHeld => ?_)
         clear hK K
         refine norm_ (a' := ?_) ?_ ?_
         rotate_left
         ·show Act.put _ (some 32) _ = _
          simp only [Act.put, List.setIfInBounds_toArray, List.set_cons_zero, List.set_cons_succ, i64_w, i32_w]
          rfl
         refine two_ (i := 7) (j := 11) (Ni := some 35) (Nj := some 7) (bz 13 1023) (bz 13 2943) rfl rfl rfl rfl (two_of HT_.out (by kernel_rfl)) (by decide) (by decide) (fun K hK => ?_) (fun K hK => ?_)
         ·skip
          refine Kd.R_append_rows_step (Kd.int .u8) (w0 := w) w.heap.size (by rfl) (.tmp 32) (.tmp 34) 22 5 (.int .u8 0) 1 rfl Try.underlying22 info5 rfl (by decide) (by omega) v1005 y1004 l0_0 _ _ _ (fun _ => True) (fun _ => False) rfl rfl ?aO ?aR (fun _ _ h => h) (fun _ h => h.elim) ?aF ?aB ?aS ?aL ?_
          (case aR => exact cc_ (Kd.C_below HR0_0.out HB.out))
          (case aB => exact bg_)
          (case aF => exact (fun _ _ => trivial))
          (case aO => exact (ro_ HO1006))
          (case aS => exact (below_size bg_))
          (case aL => have := LMc30.out; omega)
          intro v1008 w34 ho hb hg hat
          rw [← Ny1007.out] at ho
          have n0_ := am_ (blk_grown (g := gb1001) (o := .cells #[.slice A0_0 l0_0.length c0_0, .int .i64 a0_1] 28 (0, 0)) (vk_ BK1001) hg (Kd.R_ne HO1006.out BK1001.out (by decide)))
          have n1_ := am_ (blk_grown (g := gb1002) (o := .cells #[.slice none 0 0, .int .i64 0] 28 (0, 0)) (vk_ BK1002) hg (Kd.R_ne HO1006.out BK1002.out (by decide)))
          have n2_ := am_ (hb)
          have n3_ := am_ (ho)
          clear BK1001
          clear BK1002
          clear HB
          clear HO1006
          have BK1001 := n0_
          have BK1002 := n1_
          have HB := n2_
          have HO1009 := n3_
          clear n0_ n1_ n2_ n3_
          clear ho hb hg hat
          obtain ⟨Ao35, co35, eo35⟩ := Kd.R_slice HO1009.out
          (first | subst eo35 | (injection eo35 with f1_ f2_ f3_; have f4_ := f1_.symm; have f5_ := f3_.symm; clear f1_ f2_ f3_; subst f4_; subst f5_))
          refine hK.out _ _ ⟨(blk_cell BK1001.out 0).trans rfl, (blk_cell BK1001.out 1).trans rfl⟩ (fun hHeld => ?_)
          clear hK K
          refine norm_ (a' := ?_) ?_ ?_
          rotate_left
          ·show Act.put _ (some 35) _ = _
           simp only [Act.put, List.setIfInBounds_toArray, List.set_cons_zero, List.set_cons_succ, i64_w, i32_w]
           rfl
          refine pz_ 10 38 2047 ?_
          refine one_ (i := 11) (N := some 7) (bz 13 4095) rfl rfl (one_of HT_.out (by kernel_rfl)) (by decide) (fun K hK => ?_)
          refine box_step ?hg (N := 7) ?hd (cs := #[.slice none 0 0, .int .i64 0]) (t := 28) ?hr ?_; (case hd => rfl); (case hg => rfl); (case hr => first | (go_simp; done) | (go_simp; rfl))
          intro gb1010 hg w36 hbox hb
          have n0_ := am_ (Kd.R_below (ro_ HO1009) hb)
          have n1_ := am_ (blk_below (g := gb1001) (vk_ BK1001) hb)
          have n2_ := am_ (blk_below (g := gb1002) (vk_ BK1002) hb)
          have n3_ := am_ (below_step bg_ hb)
          have n4_ := am_ (hbox)
          have n5_ := am_ (gg_ hg : w.heap.size ≤ gb1010)
          have n6_ := am_ (gg_ hg : w.heap.size ≤ gb1010)
          have n7_ := am_ ((by rw [hg]; exact Nat.ne_of_lt (blk_lt (g := gb1001) (o := .cells #[.slice A0_0 l0_0.length c0_0, .int .i64 a0_1] 28 (0, 0)) (vk_ BK1001)) : gb1001 ≠ gb1010))
          have n8_ := am_ ((by rw [hg]; exact Nat.ne_of_gt (blk_lt (g := gb1001) (o := .cells #[.slice A0_0 l0_0.length c0_0, .int .i64 a0_1] 28 (0, 0)) (vk_ BK1001)) : gb1010 ≠ gb1001))
          have n9_ := am_ ((by rw [hg]; exact Nat.ne_of_lt (blk_lt (g := gb1002) (o := .cells #[.slice none 0 0, .int .i64 0] 28 (0, 0)) (vk_ BK1002)) : gb1002 ≠ gb1010))
          have n10_ := am_ ((by rw [hg]; exact Nat.ne_of_gt (blk_lt (g := gb1002) (o := .cells #[.slice none 0 0, .int .i64 0] 28 (0, 0)) (vk_ BK1002)) : gb1010 ≠ gb1002))
          clear HO1009
          clear BK1001
          clear BK1002
          clear HB
          have HO1009 := n0_
          have BK1001 := n1_
          have BK1002 := n2_
          have HB := n3_
          have BK1010 := n4_
          have GW1010 := n5_
          have GE1010 := n6_
          have NB1001_1010 := n7_
          have NB1010_1001 := n8_
          have NB1002_1010 := n9_
          have NB1010_1002 := n10_
          clear n0_ n1_ n2_ n3_ n4_ n5_ n6_ n7_ n8_ n9_ n10_
          clear hb hbox hg
          refine hK.out _ _ ⟨(blk_cell BK1001.out 0).trans rfl, (blk_cell BK1001.out 1).trans rfl⟩ (fun hHeld => ?_)
          clear hK K
          refine norm_ (a' := ?_) ?_ ?_
          rotate_left
          ·show Act.put _ (some 7) _ = _
           simp only [Act.put, List.setIfInBounds_toArray, List.set_cons_zero, List.set_cons_succ, i64_w, i32_w]
           rfl
          exact norm_ (by simp only [putAll, Act.put, List.setIfInBounds_toArray, List.set_cons_zero, List.set_cons_succ]) (hCont (v1005, .slice Ao35 y1007.length co35, gb1010) _ ⟨hHeld, (ro_ HO1009), (vk_ BK1001), (vk_ BK1002), (vk_ BK1010), GW1010.out, GE1010.out, NB1001_1010.out, NB1010_1001.out, NB1002_1010.out, NB1010_1002.out, bg_⟩)
         ·skip
          refine box_step ?hg (N := 7) ?hd (cs := #[.slice none 0 0, .int .i64 0]) (t := 28) ?hr ?_; (case hd => rfl); (case hg => rfl); (case hr => first | (go_simp; done) | (go_simp; rfl))
          intro gb1010 hg w34 hbox hb
          have n0_ := am_ (Kd.R_below (ro_ HO1006) hb)
          have n1_ := am_ (blk_below (g := gb1001) (vk_ BK1001) hb)
          have n2_ := am_ (blk_below (g := gb1002) (vk_ BK1002) hb)
          have n3_ := am_ (below_step bg_ hb)
          have n4_ := am_ (hbox)
          have n5_ := am_ (gg_ hg : w.heap.size ≤ gb1010)
          have n6_ := am_ (gg_ hg : w.heap.size ≤ gb1010)
          have n7_ := am_ ((by rw [hg]; exact Nat.ne_of_lt (blk_lt (g := gb1001) (o := .cells #[.slice A0_0 l0_0.length c0_0, .int .i64 a0_1] 28 (0, 0)) (vk_ BK1001)) : gb1001 ≠ gb1010))
          have n8_ := am_ ((by rw [hg]; exact Nat.ne_of_gt (blk_lt (g := gb1001) (o := .cells #[.slice A0_0 l0_0.length c0_0, .int .i64 a0_1] 28 (0, 0)) (vk_ BK1001)) : gb1010 ≠ gb1001))
          have n9_ := am_ ((by rw [hg]; exact Nat.ne_of_lt (blk_lt (g := gb1002) (o := .cells #[.slice none 0 0, .int .i64 0] 28 (0, 0)) (vk_ BK1002)) : gb1002 ≠ gb1010))
          have n10_ := am_ ((by rw [hg]; exact Nat.ne_of_gt (blk_lt (g := gb1002) (o := .cells #[.slice none 0 0, .int .i64 0] 28 (0, 0)) (vk_ BK1002)) : gb1010 ≠ gb1002))
          clear HO1006
          clear BK1001
          clear BK1002
          clear HB
          have HO1006 := n0_
          have BK1001 := n1_
          have BK1002 := n2_
          have HB := n3_
          have BK1010 := n4_
          have GW1010 := n5_
          have GE1010 := n6_
          have NB1001_1010 := n7_
          have NB1010_1001 := n8_
          have NB1002_1010 := n9_
          have NB1010_1002 := n10_
          clear n0_ n1_ n2_ n3_ n4_ n5_ n6_ n7_ n8_ n9_ n10_
          clear hb hbox hg
          refine hK.out _ _ ⟨(blk_cell BK1001.out 0).trans rfl, (blk_cell BK1001.out 1).trans rfl⟩ (fun hHeld => ?_)
          clear hK K
          refine norm_ (a' := ?_) ?_ ?_
          rotate_left
          ·show Act.put _ (some 7) _ = _
           simp only [Act.put, List.setIfInBounds_toArray, List.set_cons_zero, List.set_cons_succ, i64_w, i32_w]
           rfl
          refine one_ (i := 7) (N := some 35) (bz 13 3071) rfl rfl (one_of HT_.out (by kernel_rfl)) (by decide) (fun K hK => ?_)
          refine Kd.R_append_rows_step (Kd.int .u8) (w0 := w) w.heap.size (by rfl) (.tmp 32) (.tmp 34) 22 5 (.int .u8 0) 1 rfl Try.underlying22 info5 rfl (by decide) (by omega) v1005 y1004 l0_0 _ _ _ (fun _ => True) (fun _ => False) rfl rfl ?aO ?aR (fun _ _ h => h) (fun _ h => h.elim) ?aF ?aB ?aS ?aL ?_
          (case aR => exact cc_ (Kd.C_below HR0_0.out HB.out))
          (case aB => exact bg_)
          (case aF => exact (fun _ _ => trivial))
          (case aO => exact (ro_ HO1006))
          (case aS => exact (below_size bg_))
          (case aL => have := LMc30.out; omega)
          intro v1008 w35 ho hb hg hat
          rw [← Ny1007.out] at ho
          have n0_ := am_ (blk_grown (g := gb1001) (o := .cells #[.slice A0_0 l0_0.length c0_0, .int .i64 a0_1] 28 (0, 0)) (vk_ BK1001) hg (Kd.R_ne HO1006.out BK1001.out (by decide)))
          have n1_ := am_ (blk_grown (g := gb1002) (o := .cells #[.slice none 0 0, .int .i64 0] 28 (0, 0)) (vk_ BK1002) hg (Kd.R_ne HO1006.out BK1002.out (by decide)))
          have n2_ := am_ (blk_grown (g := gb1010) (o := .cells #[.slice none 0 0, .int .i64 0] 28 (0, 0)) (vk_ BK1010) hg (Kd.R_ne HO1006.out BK1010.out (by decide)))
          have n3_ := am_ (hb)
          have n4_ := am_ (ho)
          clear BK1001
          clear BK1002
          clear BK1010
          clear HB
          clear HO1006
          have BK1001 := n0_
          have BK1002 := n1_
          have BK1010 := n2_
          have HB := n3_
          have HO1009 := n4_
          clear n0_ n1_ n2_ n3_ n4_
          clear ho hb hg hat
          obtain ⟨Ao36, co36, eo36⟩ := Kd.R_slice HO1009.out
          (first | subst eo36 | (injection eo36 with f1_ f2_ f3_; have f4_ := f1_.symm; have f5_ := f3_.symm; clear f1_ f2_ f3_; subst f4_; subst f5_))
          refine hK.out _ _ ⟨(blk_cell BK1001.out 0).trans rfl, (blk_cell BK1001.out 1).trans rfl⟩ (fun hHeld => ?_)
          clear hK K
          refine norm_ (a' := ?_) ?_ ?_
          rotate_left
          ·show Act.put _ (some 35) _ = _
           simp only [Act.put, List.setIfInBounds_toArray, List.set_cons_zero, List.set_cons_succ, i64_w, i32_w]
           rfl
          refine pz_ 10 38 4095 ?_
          exact norm_ (by simp only [putAll, Act.put, List.setIfInBounds_toArray, List.set_cons_zero, List.set_cons_succ]) (hCont (v1005, .slice Ao36 y1007.length co36, gb1010) _ ⟨hHeld, (ro_ HO1009), (vk_ BK1001), (vk_ BK1002), (vk_ BK1010), GW1010.out, GE1010.out, NB1001_1010.out, NB1010_1001.out, NB1002_1010.out, NB1010_1002.out, bg_⟩)
        ·skip
         refine box_step ?hg (N := 7) ?hd (cs := #[.slice none 0 0, .int .i64 0]) (t := 28) ?hr ?_; (case hd => rfl); (case hg => rfl); (case hr => first | (go_simp; done) | (go_simp; rfl))
         intro gb1010 hg w32 hbox hb
         have n0_ := am_ (blk_below (g := gb1001) (vk_ BK1001) hb)
         have n1_ := am_ (blk_below (g := gb1002) (vk_ BK1002) hb)
         have n2_ := am_ (below_step bg_ hb)
         have n3_ := am_ (hbox)
         have n4_ := am_ (gg_ hg : w.heap.size ≤ gb1010)
         have n5_ := am_ (gg_ hg : w.heap.size ≤ gb1010)
         have n6_ := am_ ((by rw [hg]; exact Nat.ne_of_lt (blk_lt (g := gb1001) (o := .cells #[.slice A0_0 l0_0.length c0_0, .int .i64 a0_1] 28 (0, 0)) (vk_ BK1001)) : gb1001 ≠ gb1010))
         have n7_ := am_ ((by rw [hg]; exact Nat.ne_of_gt (blk_lt (g := gb1001) (o := .cells #[.slice A0_0 l0_0.length c0_0, .int .i64 a0_1] 28 (0, 0)) (vk_ BK1001)) : gb1010 ≠ gb1001))
         have n8_ := am_ ((by rw [hg]; exact Nat.ne_of_lt (blk_lt (g := gb1002) (o := .cells #[.slice none 0 0, .int .i64 0] 28 (0, 0)) (vk_ BK1002)) : gb1002 ≠ gb1010))
         have n9_ := am_ ((by rw [hg]; exact Nat.ne_of_gt (blk_lt (g := gb1002) (o := .cells #[.slice none 0 0, .int .i64 0] 28 (0, 0)) (vk_ BK1002)) : gb1010 ≠ gb1002))
         clear BK1001
         clear BK1002
         clear HB
         have BK1001 := n0_
         have BK1002 := n1_
         have HB := n2_
         have BK1010 := n3_
         have GW1010 := n4_
         have GE1010 := n5_
         have NB1001_1010 := n6_
         have NB1010_1001 := n7_
         have NB1002_1010 := n8_
         have NB1010_1002 := n9_
         clear n0_ n1_ n2_ n3_ n4_ n5_ n6_ n7_ n8_ n9_
         clear hb hbox hg
         refine hK.out _ _ ⟨(blk_cell BK1001.out 0).trans rfl, (blk_cell BK1001.out 1).trans rfl⟩ (fun hHeld => ?_)
         clear hK K
         refine norm_ (a' := ?_) ?_ ?_
         rotate_left
         ·show Act.put _ (some 7) _ = _
          simp only [Act.put, List.setIfInBounds_toArray, List.set_cons_zero, List.set_cons_succ, i64_w, i32_w]
          rfl
         refine one_ (i := 4) (N := some 32) (bz 13 2943) rfl rfl (one_of HT_.out (by kernel_rfl)) (by decide) (fun K hK => ?_)
         refine Kd.R_mcap_step (Kd.int .u8) _ 5 (by rfl) (N := 32) rfl 22 _ _ rfl ji27 rfl rfl Try.underlying22 (.int .u8 0) 1 info5 rfl (by decide) (by omega) 0 (ok := fun _ => True) (okp := fun _ => True) rfl (fun _ hk => hk) trivial (od_) (Nat.le_trans (Nat.mul_le_mul_right _ (od_ : ji27.toNat ≤ 281474976710656)) (by omega)) (Below.refl _ _) (Nat.le_refl _) ?_
         intro v1005 w33 ho34 hb hg_ hnew_
         clear hg_ hnew_
         (first | rw [← Ny1004.out] at ho34 | (simp only [Int.reduceToNat] at ho34; rw [← Ny1004.out] at ho34))
         have n0_ := am_ (Kd.R_lower ho34 (below_size bg_))
         have n1_ := am_ (blk_below (g := gb1001) (vk_ BK1001) hb)
         have n2_ := am_ (blk_below (g := gb1002) (vk_ BK1002) hb)
         have n3_ := am_ (blk_below (g := gb1010) (vk_ BK1010) hb)
         have n4_ := am_ (below_step bg_ hb)
         clear BK1001
         clear BK1002
         clear BK1010
         clear HB
         have HO1006 := n0_
         have BK1001 := n1_
         have BK1002 := n2_
         have BK1010 := n3_
         have HB := n4_
         clear n0_ n1_ n2_ n3_ n4_
         clear hb ho34
         refine hK.out _ _ ⟨(blk_cell BK1001.out 0).trans rfl, (blk_cell BK1001.out 1).trans rfl⟩ (fun hHeld => ?_)
         clear hK K
         refine norm_ (a' := ?_) ?_ ?_
         rotate_left
         ·show Act.put _ (some 32) _ = _
          simp only [Act.put, List.setIfInBounds_toArray, List.set_cons_zero, List.set_cons_succ, i64_w, i32_w]
          rfl
         refine one_ (i := 7) (N := some 35) (bz 13 3071) rfl rfl (one_of HT_.out (by kernel_rfl)) (by decide) (fun K hK => ?_)
         refine Kd.R_append_rows_step (Kd.int .u8) (w0 := w) w.heap.size (by rfl) (.tmp 32) (.tmp 34) 22 5 (.int .u8 0) 1 rfl Try.underlying22 info5 rfl (by decide) (by omega) v1005 y1004 l0_0 _ _ _ (fun _ => True) (fun _ => False) rfl rfl ?aO ?aR (fun _ _ h => h) (fun _ h => h.elim) ?aF ?aB ?aS ?aL ?_
         (case aR => exact cc_ (Kd.C_below HR0_0.out HB.out))
         (case aB => exact bg_)
         (case aF => exact (fun _ _ => trivial))
         (case aO => exact (ro_ HO1006))
         (case aS => exact (below_size bg_))
         (case aL => have := LMc30.out; omega)
         intro v1008 w35 ho hb hg hat
         rw [← Ny1007.out] at ho
         have n0_ := am_ (blk_grown (g := gb1001) (o := .cells #[.slice A0_0 l0_0.length c0_0, .int .i64 a0_1] 28 (0, 0)) (vk_ BK1001) hg (Kd.R_ne HO1006.out BK1001.out (by decide)))
         have n1_ := am_ (blk_grown (g := gb1002) (o := .cells #[.slice none 0 0, .int .i64 0] 28 (0, 0)) (vk_ BK1002) hg (Kd.R_ne HO1006.out BK1002.out (by decide)))
         have n2_ := am_ (blk_grown (g := gb1010) (o := .cells #[.slice none 0 0, .int .i64 0] 28 (0, 0)) (vk_ BK1010) hg (Kd.R_ne HO1006.out BK1010.out (by decide)))
         have n3_ := am_ (hb)
         have n4_ := am_ (ho)
         clear BK1001
         clear BK1002
         clear BK1010
         clear HB
         clear HO1006
         have BK1001 := n0_
         have BK1002 := n1_
         have BK1010 := n2_
         have HB := n3_
         have HO1009 := n4_
         clear n0_ n1_ n2_ n3_ n4_
         clear ho hb hg hat
         obtain ⟨Ao36, co36, eo36⟩ := Kd.R_slice HO1009.out
         (first | subst eo36 | (injection eo36 with f1_ f2_ f3_; have f4_ := f1_.symm; have f5_ := f3_.symm; clear f1_ f2_ f3_; subst f4_; subst f5_))
         refine hK.out _ _ ⟨(blk_cell BK1001.out 0).trans rfl, (blk_cell BK1001.out 1).trans rfl⟩ (fun hHeld => ?_)
         clear hK K
         refine norm_ (a' := ?_) ?_ ?_
         rotate_left
         ·show Act.put _ (some 35) _ = _
          simp only [Act.put, List.setIfInBounds_toArray, List.set_cons_zero, List.set_cons_succ, i64_w, i32_w]
          rfl
         refine pz_ 10 38 4095 ?_
         exact norm_ (by simp only [putAll, Act.put, List.setIfInBounds_toArray, List.set_cons_zero, List.set_cons_succ]) (hCont (v1005, .slice Ao36 y1007.length co36, gb1010) _ ⟨hHeld, (ro_ HO1009), (vk_ BK1001), (vk_ BK1002), (vk_ BK1010), GW1010.out, GE1010.out, NB1001_1010.out, NB1010_1001.out, NB1002_1010.out, NB1010_1002.out, bg_⟩)
       rintro ⟨v1005, v1008, gb1010⟩ w37 ⟨hS_, h0_, h1_, h2_, h3_, h4_, h5_, h6_, h7_, h8_, h9_, h10_⟩
       have n0_ : Aside0 (Kd.R (Kd.int .u8) 5 w37 w.heap.size (fun _ => True) v1008 y1007) := ⟨h0_⟩
       have n1_ : Aside0 (w37.heap[gb1001]? = some (.cells #[.slice A0_0 l0_0.length c0_0, .int .i64 a0_1] 28 (0, 0))) := ⟨h1_⟩
       have n2_ : Aside0 (w37.heap[gb1002]? = some (.cells #[.slice none 0 0, .int .i64 0] 28 (0, 0))) := ⟨h2_⟩
       have n3_ : Aside0 (w37.heap[gb1010]? = some (.cells #[.slice none 0 0, .int .i64 0] 28 (0, 0))) := ⟨h3_⟩
       have n4_ : Aside0 (w.heap.size ≤ gb1010) := ⟨h4_⟩
       have n5_ : Aside0 (w.heap.size ≤ gb1010) := ⟨h5_⟩
       have n6_ : Aside0 (gb1001 ≠ gb1010) := ⟨h6_⟩
       have n7_ : Aside0 (gb1010 ≠ gb1001) := ⟨h7_⟩
       have n8_ : Aside0 (gb1002 ≠ gb1010) := ⟨h8_⟩
       have n9_ : Aside0 (gb1010 ≠ gb1002) := ⟨h9_⟩
       have n10_ : Aside0 (Below w.heap.size w w37) := ⟨h10_⟩
       clear BK1001
       clear BK1002
       clear HB
       clear h0_ h1_ h2_ h3_ h4_ h5_ h6_ h7_ h8_ h9_ h10_
       have HO1009 := n0_
       have BK1001 := n1_
       have BK1002 := n2_
       have BK1010 := n3_
       have GW1010 := n4_
       have GE1010 := n5_
       have NB1001_1010 := n6_
       have NB1010_1001 := n7_
       have NB1002_1010 := n8_
       have NB1010_1002 := n9_
       have HB := n10_
       clear n0_ n1_ n2_ n3_ n4_ n5_ n6_ n7_ n8_ n9_ n10_
       have hHeld : w37.cell? ⟨gb1001, 0, none⟩ = some (.slice A0_0 l0_0.length c0_0) ∧ w37.cell? ⟨gb1001, 1, none⟩ = some (.int .i64 a0_1) := hS_
       obtain ⟨Ao38, co38, eo38⟩ := Kd.R_slice HO1009.out
       (first | subst eo38 | (injection eo38 with f1_ f2_ f3_; have f4_ := f1_.symm; have f5_ := f3_.symm; clear f1_ f2_ f3_; subst f4_; subst f5_))
       refine norm_ (a' := ?_) ?_ ?_
       rotate_left
       ·simp only [putAll, Act.put, List.setIfInBounds_toArray, List.set_cons_zero, List.set_cons_succ]
        rfl
       refine one_ (i := 12) (N := none) (bz 13 8191) rfl rfl (one_of HT_.out (by kernel_rfl)) (by decide) (fun K hK => ?_)
       have hs39 : w37.cell? ⟨gb1010, 0, none⟩ = some (.slice none 0 0) := (blk_cell BK1010.out 0).trans rfl
       have hfs39 := bf_ BK1010 0
       have hns39_0 := NB1001_1010.out
       have hns39_1 := NB1002_1010.out
       have hms39_0 := NB1010_1001.out
       have hms39_1 := NB1010_1002.out
       have hs40 : w37.cell? ⟨gb1010, 1, none⟩ = some (.int .i64 0) := (blk_cell BK1010.out 1).trans rfl
       have hfs40 := bf_ BK1010 1
       have hns40_0 := NB1001_1010.out
       have hns40_1 := NB1002_1010.out
       have hms40_0 := NB1010_1001.out
       have hms40_1 := NB1010_1002.out
       refine skip_ (w1 := ?_) (by rfl) rfl ?_ ?_
       rotate_left
       ·go_simp
        rfl
       refine hK.out _ _ ⟨((cell_far (p := ⟨gb1010, _, none⟩) NB1001_1010.out _).trans (((cell_far (p := ⟨gb1010, _, none⟩) NB1001_1010.out _).trans (hHeld.1)))), ((cell_far (p := ⟨gb1010, _, none⟩) NB1001_1010.out _).trans (((cell_far (p := ⟨gb1010, _, none⟩) NB1001_1010.out _).trans (hHeld.2))))⟩ (fun hHeld => ?_)
       clear hK K
       refine done_ (done_of HT_.out (by kernel_rfl)) ?_
       try go_wp2
       go_loopg [8] kj3 (fun kq v8 w' => ∃ (x8_2 : Int) (x1011000_2 : List Int) (x1011001_2 : Int) (u1011000 : Value), v8 = .int .i64 x8_2 ∧ Aside0 (impl_AddBits.l0 kq a1 x8_2 x1011000_2 x1011001_2 = some (r1, r2)) ∧ Aside0 (kq ≤ kj3) ∧ Aside0 (Kd.R (Kd.int .u8) 5 w' w.heap.size (fun _ => True) u1011000 x1011000_2) ∧ Aside0 (w'.heap[gb1001]? = some (.cells #[(.slice A0_0 l0_0.length c0_0), .int .i64 a0_1] 28 (0, 0))) ∧ Aside0 (w'.heap[gb1002]? = some (.cells #[(.slice none 0 0), .int .i64 0] 28 (0, 0))) ∧ Aside0 (w'.heap[gb1010]? = some (.cells #[u1011000, .int .i64 x1011001_2] 28 (0, 0))) ∧ Aside0 (Below w.heap.size w w'))
       case atStart => exact ⟨(wrap64 (a2 - 1)), (y1007), (a0_1), (.slice Ao38 y1007.length co38), rs_, H', ⟨Nat.le_refl _⟩, ⟨by (with_reducible repeat (first | apply Kd.R_alloc | apply Kd.R_drewN | apply Kd.R_drew)); exact Kd.R_mono (Kd.R_far (p := ⟨gb1010, 1, none⟩) (Kd.R_far (p := ⟨gb1010, 0, none⟩) (Kd.R_types HO1009.out BK1010.out (by decide)) (fun _ hk => hk.2) (.slice Ao38 y1007.length co38)) (fun _ hk => hk.2) (.int .i64 a0_1)) (fun _ hk => trivial)⟩, ⟨by (with_reducible repeat (first | refine blk_drewN ?_ _ | refine blk_drew ?_ | refine blk_alloc ?_ _)); refine blk_far ?_ NB1001_1010.out _; (with_reducible repeat (first | refine blk_drewN ?_ _ | refine blk_drew ?_ | refine blk_alloc ?_ _)); refine blk_far ?_ NB1001_1010.out _; (with_reducible repeat (first | refine blk_drewN ?_ _ | refine blk_drew ?_ | refine blk_alloc ?_ _)); exact BK1001.out⟩, ⟨by (with_reducible repeat (first | refine blk_drewN ?_ _ | refine blk_drew ?_ | refine blk_alloc ?_ _)); refine blk_far ?_ NB1002_1010.out _; (with_reducible repeat (first | refine blk_drewN ?_ _ | refine blk_drew ?_ | refine blk_alloc ?_ _)); refine blk_far ?_ NB1002_1010.out _; (with_reducible repeat (first | refine blk_drewN ?_ _ | refine blk_drew ?_ | refine blk_alloc ?_ _)); exact BK1002.out⟩, ⟨by (with_reducible repeat (first | refine blk_drewN ?_ _ | refine blk_drew ?_ | refine blk_alloc ?_ _)); refine blk_put (cs := #[.slice Ao38 y1007.length co38, .int .i64 0]) ?_ 1 _ rfl; (with_reducible repeat (first | refine blk_drewN ?_ _ | refine blk_drew ?_ | refine blk_alloc ?_ _)); refine blk_put (cs := #[.slice none 0 0, .int .i64 0]) ?_ 0 _ rfl; (with_reducible repeat (first | refine blk_drewN ?_ _ | refine blk_drew ?_ | refine blk_alloc ?_ _)); exact BK1010.out⟩, ⟨bg_⟩⟩
       case round =>
        clear H'
        try clear c1
        try clear c2
        try clear p2
        try clear c3
        try clear c6
        try clear p6
        try clear c8
        try clear c9
        try clear c9b0
        try clear c10
        try clear c13
        try clear c13b0
        try clear c14
        try clear c17
        try clear c21
        try clear c24
        try clear c25
        try clear c28
        try clear c28b0
        try clear c28b1
        try clear c29
        try clear c29b0
        try clear c29b1
        try clear c30
        try clear hcz11_0
        try clear hcz11_1
        try clear hcz15_0
        try clear hcz15_1
        try clear hcz18_0
        try clear hcz18_1
        try clear hcz20_0
        try clear hcz20_1
        try clear hcz22_0
        try clear hcz22_1
        try clear hcz26_0
        try clear hcz26_1
        try clear hfz11_0
        try clear hfz11_1
        try clear hfz15_0
        try clear hfz15_1
        try clear hfz18_0
        try clear hfz18_1
        try clear hfz20_0
        try clear hfz20_1
        try clear hfz22_0
        try clear hfz22_1
        try clear hfz26_0
        try clear hfz26_1
        try clear p2
        try clear p6
        obtain ⟨x8_2, x1011000_2, x1011001_2, u1011000, rfl, HA, HK2, HO_1011000, BK1001, BK1002, BK1010, HB⟩ := hrel
        cases gk with
        | zero => exact absurd HA.out (by simp [impl_AddBits.l0])
        | succ k2 =>
         have H := HA.out
         clear HA
         simp only [impl_AddBits.l0] at H
         by_cases c41 : x8_2 ≥ 0
         ·rw [if_pos c41] at H
          have c41b0 : decide (0 ≤ x8_2) = true := decide_eq_true c41
          clear c41
          by_cases c42 : (Int.tmod x1011001_2 8) = 0
          ·rw [if_pos c42] at H
           have c42b0 : ((Int.tmod x1011001_2 8) == 0) = true := beq_iff_eq.mpr c42
           have c42b1 : ((Int.tmod x1011001_2 8) != 0) = false := bne_eq_false_iff_eq.mpr c42
           clear c42
           by_cases c43 : x1011000_2.length < 140737488355328
           ·rw [if_pos c43] at H
            have LMc43 := am_ c43
            clear c43
            obtain ⟨y1011, hy1011⟩ : ∃ y_ : List Int, y_ = (x1011000_2 ++ [0]) := ⟨_, rfl⟩
            replace H : (if 0 ≤ x8_2 then (if (Go.bits .and .u64 (shr .u64 (IntKind.u64.wrap (a1)) x8_2) 1) = 1 then (if 0 ≤ (wrap64 (Int.tdiv x1011001_2 8)) then (if (wrap64 (Int.tdiv x1011001_2 8)) < (y1011.length : Int) then (if 0 ≤ (Int.tmod x1011001_2 8) then (impl_AddBits.l0 k2 a1 (wrap64 (x8_2 - 1)) (y1011.set ((wrap64 (Int.tdiv x1011001_2 8)) : Int).toNat (Go.bits .or .u8 (rd y1011 (wrap64 (Int.tdiv x1011001_2 8))) (shr .u8 128 (Int.tmod x1011001_2 8)))) (wrap64 (x1011001_2 + 1))) else (none)) else (none)) else (none)) else (impl_AddBits.l0 k2 a1 (wrap64 (x8_2 - 1)) y1011 (wrap64 (x1011001_2 + 1)))) else (none)) = some (r1, r2) := by first | (rw [hy1011]; with_reducible exact H) | (have H2_ := (Option.bind_some _ _).symm.trans H; rw [hy1011]; with_reducible exact H2_) | (have H2_ := (Option.bind_some _ _).symm.trans H; with_reducible exact H2_) | with_reducible exact H | (rw [hy1011]; exact H) | exact H
            have Ny1011 := am_ hy1011
            clear hy1011
            by_cases c44 : 0 ≤ x8_2
            ·rw [if_pos c44] at H
             have c44b0 := eq_true c44
             have c44b1 : decide (0 ≤ x8_2) = true := decide_eq_true c44
             clear c44
             obtain ⟨ji45, hji45⟩ : ∃ j_ : Int, (shr .u64 (IntKind.u64.wrap (a1)) x8_2) = j_ := ⟨_, rfl⟩
             replace H : (if (Go.bits .and .u64 (ji45) 1) = 1 then (if 0 ≤ (wrap64 (Int.tdiv x1011001_2 8)) then (if (wrap64 (Int.tdiv x1011001_2 8)) < (y1011.length : Int) then (if 0 ≤ (Int.tmod x1011001_2 8) then (impl_AddBits.l0 k2 a1 (wrap64 (x8_2 - 1)) (y1011.set ((wrap64 (Int.tdiv x1011001_2 8)) : Int).toNat (Go.bits .or .u8 (rd y1011 (wrap64 (Int.tdiv x1011001_2 8))) (shr .u8 128 (Int.tmod x1011001_2 8)))) (wrap64 (x1011001_2 + 1))) else (none)) else (none)) else (none)) else (impl_AddBits.l0 k2 a1 (wrap64 (x8_2 - 1)) y1011 (wrap64 (x1011001_2 + 1)))) = some (r1, r2) := by first | (rw [hji45] at H; exact H) | (simp only [hji45] at H ⊢; exact H)
             have hji45_ : ((IntKind.u64.wrap (a1)) / 2 ^ min x8_2.toNat 64) = ji45 := hji45
             have hji45z : x8_2 ≤ 64 → ((IntKind.u64.wrap (a1)) / 2 ^ x8_2.toNat) = ji45 := shr_small hji45
             by_cases c46 : (Go.bits .and .u64 (ji45) 1) = 1
             ·rw [if_pos c46] at H
              have c46b0 : ((Go.bits .and .u64 (ji45) 1) == 1) = true := beq_iff_eq.mpr c46
              have c46b1 : ((Go.bits .and .u64 (ji45) 1) != 1) = false := bne_eq_false_iff_eq.mpr c46
              clear c46
              obtain ⟨ji47, hji47⟩ : ∃ j_ : Int, (wrap64 (Int.tdiv x1011001_2 8)) = j_ := ⟨_, rfl⟩
              replace H : (if 0 ≤ (ji47) then (if (ji47) < (y1011.length : Int) then (if 0 ≤ (Int.tmod x1011001_2 8) then (impl_AddBits.l0 k2 a1 (wrap64 (x8_2 - 1)) (y1011.set ((ji47) : Int).toNat (Go.bits .or .u8 (rd y1011 (ji47)) (shr .u8 128 (Int.tmod x1011001_2 8)))) (wrap64 (x1011001_2 + 1))) else (none)) else (none)) else (none)) = some (r1, r2) := by first | (rw [hji47] at H; exact H) | (simp only [hji47] at H ⊢; exact H)
              have hji47w : (IntKind.i64.wrap (Int.tdiv x1011001_2 8)) = ji47 := (i64_w _).trans hji47
              by_cases c48 : 0 ≤ (ji47)
              ·rw [if_pos c48] at H
               have c48b0 : decide (0 ≤ (ji47)) = true := decide_eq_true c48
               clear c48
               by_cases c49 : (ji47) < (y1011.length : Int)
               ·rw [if_pos c49] at H
                have c49b0 : decide ((ji47) < (y1011.length : Int)) = true := decide_eq_true c49
                clear c49
                obtain ⟨ji50, hji50⟩ : ∃ j_ : Int, (Int.tmod x1011001_2 8) = j_ := ⟨_, rfl⟩
                have hji50b : ji50 ≤ 8 := by rw [← hji50]; exact Int.le_of_lt (Int.tmod_lt_of_pos _ (by decide))
                replace H : (if 0 ≤ (ji50) then (impl_AddBits.l0 k2 a1 (wrap64 (x8_2 - 1)) (y1011.set ((ji47) : Int).toNat (Go.bits .or .u8 (rd y1011 (ji47)) (shr .u8 128 (ji50)))) (wrap64 (x1011001_2 + 1))) else (none)) = some (r1, r2) := by first | (rw [hji50] at H; exact H) | (simp only [hji50] at H ⊢; exact H)
                (try rw [hji50] at c42b0)
                (try rw [hji50] at c42b1)
                by_cases c51 : 0 ≤ (ji50)
                ·rw [if_pos c51] at H
                 have c51b0 := eq_true c51
                 have c51b1 : decide (0 ≤ (ji50)) = true := decide_eq_true c51
                 clear c51
                 obtain ⟨ji52, hji52⟩ : ∃ j_ : Int, (shr .u8 128 (ji50)) = j_ := ⟨_, rfl⟩
                 replace H : (impl_AddBits.l0 k2 a1 (wrap64 (x8_2 - 1)) (y1011.set ((ji47) : Int).toNat (Go.bits .or .u8 (rd y1011 (ji47)) (ji52))) (wrap64 (x1011001_2 + 1))) = some (r1, r2) := by first | (rw [hji52] at H; exact H) | (simp only [hji52] at H ⊢; exact H)
                 have hji52_ : (128 / 2 ^ min (ji50).toNat 8) = ji52 := hji52
                 have hji52z : (ji50) ≤ 8 → (128 / 2 ^ (ji50).toNat) = ji52 := shr_small hji52
                 obtain ⟨y1015, hy1015⟩ : ∃ y_ : List Int, y_ = (y1011.set ((ji47) : Int).toNat (Go.bits .or .u8 (rd y1011 (ji47)) (ji52))) := ⟨_, rfl⟩
                 replace H : (impl_AddBits.l0 k2 a1 (wrap64 (x8_2 - 1)) y1015 (wrap64 (x1011001_2 + 1))) = some (r1, r2) := by first | (rw [hy1015]; with_reducible exact H) | (have H2_ := (Option.bind_some _ _).symm.trans H; rw [hy1015]; with_reducible exact H2_) | (have H2_ := (Option.bind_some _ _).symm.trans H; with_reducible exact H2_) | with_reducible exact H | (rw [hy1015]; exact H) | exact H
                 have Ny1015 := am_ hy1015
                 clear hy1015
                 have H' := am_ H
                 clear H
                 have hnb54 := NB1010_1001.out
                 have hnc54 := NB1001_1010.out
                 have hnb55 := NB1010_1002.out
                 have hnc55 := NB1002_1010.out
                 have hcz56_0 := bc2_0 BK1010
                 have hcz56_1 := bc2_1 BK1010
                 have hfz56_0 := bf_ BK1010 0
                 have hfz56_1 := bf_ BK1010 1
                 try go_wp2_with (first | ((with_reducible refine gate_builtin (b := .append) (xs := #[.tmp 50, .tmp 51]) rfl ?_); at_builtin; refine Kd.R_append (Kd.int .u8) (w0 := w) w.heap.size rfl (.tmp 50) (.tmp 51) 22 5 (.int .u8 0) 1 rfl Try.underlying22 info5 rfl (by decide) (by omega) u1011000 x1011000_2 0 [.int .u8 0] (fun _ => True) (fun _ => False) rfl rfl ?aP (fun _ hk => hk.elim) ?aF ?aO ?aB ?aS ?aL ?_; (case aP => exact rfl); (case aB => exact bg_); (case aF => exact (fun _ _ => trivial)); (case aO => exact (ro_ HO_1011000)); (case aS => exact (below_size bg_)); (case aL => have := LMc43.out; omega); intro v1012 w57 ho hb hg hat; rw [← Ny1011.out] at ho; have n0_ := am_ (blk_grown (g := gb1001) (o := .cells #[.slice A0_0 l0_0.length c0_0, .int .i64 a0_1] 28 (0, 0)) (vk_ BK1001) hg (Kd.R_ne HO_1011000.out BK1001.out (by decide))); have n1_ := am_ (blk_grown (g := gb1002) (o := .cells #[.slice none 0 0, .int .i64 0] 28 (0, 0)) (vk_ BK1002) hg (Kd.R_ne HO_1011000.out BK1002.out (by decide))); have n2_ := am_ (blk_grown (g := gb1010) (o := .cells #[u1011000, .int .i64 x1011001_2] 28 (0, 0)) (vk_ BK1010) hg (Kd.R_ne HO_1011000.out BK1010.out (by decide))); have n3_ := am_ (hb); have n4_ := am_ (ho); clear BK1001; clear BK1002; clear BK1010; clear HB; clear HO_1011000; have BK1001 := n0_; have BK1002 := n1_; have BK1010 := n2_; have HB := n3_; have HO1013 := n4_; clear n0_ n1_ n2_ n3_ n4_; clear ho hb hg hat; obtain ⟨Ao58, co58, eo58⟩ := Kd.R_slice HO1013.out; subst eo58; have hcz59_0 := bc2_0 BK1010; have hcz59_1 := bc2_1 BK1010; have hfz59_0 := bf_ BK1010 0; have hfz59_1 := bf_ BK1010 1))
                 have n0_ : Aside0 (Kd.R (Kd.int .u8) 5 (w57.setCell ⟨gb1010, 0, none⟩ (.slice Ao58 y1011.length co58)) w.heap.size (fun _ => True) (.slice Ao58 y1011.length co58) y1011) := ⟨by (with_reducible repeat (first | apply Kd.R_alloc | apply Kd.R_drewN | apply Kd.R_drew)); exact Kd.R_mono (Kd.R_far (p := ⟨gb1010, 0, none⟩) (Kd.R_types HO1013.out BK1010.out (by decide)) (fun _ hk => hk.2) (.slice Ao58 y1011.length co58)) (fun _ hk => trivial)⟩
                 have n1_ : Aside0 ((w57.setCell ⟨gb1010, 0, none⟩ (.slice Ao58 y1011.length co58)).heap[gb1001]? = some (.cells #[.slice A0_0 l0_0.length c0_0, .int .i64 a0_1] 28 (0, 0))) := ⟨by (with_reducible repeat (first | refine blk_drewN ?_ _ | refine blk_drew ?_ | refine blk_alloc ?_ _)); refine blk_far ?_ NB1001_1010.out _; (with_reducible repeat (first | refine blk_drewN ?_ _ | refine blk_drew ?_ | refine blk_alloc ?_ _)); exact BK1001.out⟩
                 have n2_ : Aside0 ((w57.setCell ⟨gb1010, 0, none⟩ (.slice Ao58 y1011.length co58)).heap[gb1002]? = some (.cells #[.slice none 0 0, .int .i64 0] 28 (0, 0))) := ⟨by (with_reducible repeat (first | refine blk_drewN ?_ _ | refine blk_drew ?_ | refine blk_alloc ?_ _)); refine blk_far ?_ NB1002_1010.out _; (with_reducible repeat (first | refine blk_drewN ?_ _ | refine blk_drew ?_ | refine blk_alloc ?_ _)); exact BK1002.out⟩
                 have n3_ : Aside0 ((w57.setCell ⟨gb1010, 0, none⟩ (.slice Ao58 y1011.length co58)).heap[gb1010]? = some (.cells #[.slice Ao58 y1011.length co58, .int .i64 x1011001_2] 28 (0, 0))) := ⟨by (with_reducible repeat (first | refine blk_drewN ?_ _ | refine blk_drew ?_ | refine blk_alloc ?_ _)); refine blk_put (cs := #[u1011000, .int .i64 x1011001_2]) ?_ 0 _ rfl; (with_reducible repeat (first | refine blk_drewN ?_ _ | refine blk_drew ?_ | refine blk_alloc ?_ _)); exact BK1010.out⟩
                 have n4_ : Aside0 (Below w.heap.size w (w57.setCell ⟨gb1010, 0, none⟩ (.slice Ao58 y1011.length co58))) := ⟨bg_⟩
                 (try clear HO1013)
                 (try clear BK1001)
                 (try clear BK1002)
                 (try clear BK1010)
                 (try clear HB)
                 generalize (w57.setCell ⟨gb1010, 0, none⟩ (.slice Ao58 y1011.length co58)) = w60 at n0_ n1_ n2_ n3_ n4_ ⊢
                 have HO1013 := n0_
                 have BK1001 := n1_
                 have BK1002 := n2_
                 have BK1010 := n3_
                 have HB := n4_
                 clear n0_ n1_ n2_ n3_ n4_
                 have n0_ := am_ (Kd.R_drew HO1013.out)
                 have n1_ := am_ (blk_drew BK1001.out)
                 have n2_ := am_ (blk_drew BK1002.out)
                 have n3_ := am_ (blk_drew BK1010.out)
                 have n4_ := am_ (below_drew1 HB.out)
                 clear HO1013
                 clear BK1001
                 clear BK1002
                 clear BK1010
                 clear HB
                 have HO1013 := n0_
                 have BK1001 := n1_
                 have BK1002 := n2_
                 have BK1010 := n3_
                 have HB := n4_
                 clear n0_ n1_ n2_ n3_ n4_
                 have p1014 : 0 ≤ ((ji47) : Int) := od_
                 have q1014 : (ji47) < (y1011.length : Int) := od_
                 obtain ⟨ad1014, e1014, hx1014_0⟩ := Kd.at_int (Kd.R_reads' HO1013.out).2.2 (ji47) p1014 q1014
                 cases e1014
                 replace p1014 := eq_true p1014
                 replace q1014 := eq_true q1014
                 have p53 : 0 ≤ ((ji47) : Int) := od_
                 have q53 : ((ji47) : Int) < ((y1011.length : Int) : Int) := od_
                 obtain ⟨go53, co53, eo53, gb53, gl53, cl53, HG53⟩ := Kd.R_form HO1013.out (by omega)
                 (first | cases eo53 | (injection eo53 with ea_ en_ ec_; (first | subst ea_ | (injection ea_ with ea_; subst ea_)); subst ec_; clear en_))
                 have GB53 := am_ gb53
                 have GG53 := am_ HG53
                 clear gb53 gl53 HG53
                 (first | simp only [add_plain] at hx1014_0 | skip)
                 obtain ⟨hx53_0, hf53_0⟩ := Kd.R_celln 0 HO1013.out ((ji47) : Int) p53 q53
                 replace p53 := eq_true p53
                 replace q53 := eq_true q53
                 have HP62 := Kd.R_putn HO1013.out ((ji47) : Int) (Go.bits .or .u8 (rd y1011 (ji47)) (ji52))
                 rw [← Ny1015.out] at HP62
                 have HQ62 := am_ HP62
                 clear HP62
                 refine start_ (n := 14) (S := fun w' => w'.cell? ⟨gb1010, 0, none⟩ = some (.slice (some ⟨go53, 0, none⟩) y1011.length co58) ∧ w'.cell? ⟨gb1010, 1, none⟩ = some (.int .i64 x1011001_2) ∧ w'.cell? ⟨go53, ((ji47)).toNat, none⟩ = some (.int .u8 (rd y1011 (ji47)))) (ds := [13]) (bz 14 0) (by kernel_rfl) rfl rfl ⟨(blk_cell BK1010.out 0).trans rfl, (blk_cell BK1010.out 1).trans rfl, hx1014_0⟩ (fun hHeld => ?_); refine with_tabW impl_AddBits.tab10 impl_AddBits.bits10 (fun HT_ HW_ => ?_)
                 generalize w60.drew = w61 at HO1013 BK1001 BK1002 BK1010 HB GG53 HQ62 hf53_0 hx1014_0 hx53_0 hHeld ⊢
                 refine pz_ 0 60 1 ?_
                 refine pz_ 2 62 5 ?_
                 refine pz_ 7 67 133 ?_
                 refine tz_ 1 61 135 ?_
                 refine tz_ 3 63 143 ?_
                 refine pz_ 4 64 159 ?_
                 refine pz_ 5 65 191 ?_
                 refine tz_ 6 66 255 ?_
                 refine tz_ 8 68 511 ?_
                 refine pz_ 9 69 1023 ?_
                 refine pz_ 10 70 2047 ?_
                 refine pz_ 11 71 4095 ?_
                 refine pz_ 12 72 8191 ?_
                 refine last_ (i := 13) (N := none) (bz 14 16383) rfl rfl (one_of HT_.out (by kernel_rfl)) (by decide) (fun K hK => ?_)
                 refine skip_ (w1 := ?_) (by rfl) rfl ?_ ?_
                 rotate_left
                 ·go_simp
                  rfl
                 refine hK.out _ _ ?_
                 clear hK K
                 refine done_ (done_of HT_.out (by kernel_rfl)) ?_
                 have n0_ : Aside0 (Kd.R (Kd.int .u8) 5 (w61.setCell ⟨go53, ((ji47) : Int).toNat, none⟩ (.int .u8 (Go.bits .or .u8 (rd y1011 (ji47)) (ji52)))) w.heap.size (fun _ => True) (.slice (some ⟨go53, 0, none⟩) y1011.length co58) y1015) := ⟨ro_ HQ62⟩
                 have n1_ : Aside0 ((w61.setCell ⟨go53, ((ji47) : Int).toNat, none⟩ (.int .u8 (Go.bits .or .u8 (rd y1011 (ji47)) (ji52)))).heap[gb1001]? = some (.cells #[.slice A0_0 l0_0.length c0_0, .int .i64 a0_1] 28 (0, 0))) := ⟨by (with_reducible repeat (first | refine blk_drewN ?_ _ | refine blk_drew ?_ | refine blk_alloc ?_ _)); refine blk_far ?_ (by have h_ := Kd.R_ne HO1013.out BK1001.out (by decide); intro e_; exact h_ (by rw [e_]; rfl)) _; (with_reducible repeat (first | refine blk_drewN ?_ _ | refine blk_drew ?_ | refine blk_alloc ?_ _)); exact BK1001.out⟩
                 have n2_ : Aside0 ((w61.setCell ⟨go53, ((ji47) : Int).toNat, none⟩ (.int .u8 (Go.bits .or .u8 (rd y1011 (ji47)) (ji52)))).heap[gb1002]? = some (.cells #[.slice none 0 0, .int .i64 0] 28 (0, 0))) := ⟨by (with_reducible repeat (first | refine blk_drewN ?_ _ | refine blk_drew ?_ | refine blk_alloc ?_ _)); refine blk_far ?_ (by have h_ := Kd.R_ne HO1013.out BK1002.out (by decide); intro e_; exact h_ (by rw [e_]; rfl)) _; (with_reducible repeat (first | refine blk_drewN ?_ _ | refine blk_drew ?_ | refine blk_alloc ?_ _)); exact BK1002.out⟩
                 have n3_ : Aside0 ((w61.setCell ⟨go53, ((ji47) : Int).toNat, none⟩ (.int .u8 (Go.bits .or .u8 (rd y1011 (ji47)) (ji52)))).heap[gb1010]? = some (.cells #[.slice (some ⟨go53, 0, none⟩) y1011.length co58, .int .i64 x1011001_2] 28 (0, 0))) := ⟨by (with_reducible repeat (first | refine blk_drewN ?_ _ | refine blk_drew ?_ | refine blk_alloc ?_ _)); refine blk_far ?_ (by have h_ := Kd.R_ne HO1013.out BK1010.out (by decide); intro e_; exact h_ (by rw [e_]; rfl)) _; (with_reducible repeat (first | refine blk_drewN ?_ _ | refine blk_drew ?_ | refine blk_alloc ?_ _)); exact BK1010.out⟩
                 have n4_ : Aside0 (Below w.heap.size w (w61.setCell ⟨go53, ((ji47) : Int).toNat, none⟩ (.int .u8 (Go.bits .or .u8 (rd y1011 (ji47)) (ji52))))) := ⟨bg_⟩
                 (try clear HO1013)
                 (try clear BK1001)
                 (try clear BK1002)
                 (try clear BK1010)
                 (try clear HB)
                 generalize (w61.setCell ⟨go53, ((ji47) : Int).toNat, none⟩ (.int .u8 (Go.bits .or .u8 (rd y1011 (ji47)) (ji52)))) = w63 at n0_ n1_ n2_ n3_ n4_ ⊢
                 have HO1013 := n0_
                 have BK1001 := n1_
                 have BK1002 := n2_
                 have BK1010 := n3_
                 have HB := n4_
                 clear n0_ n1_ n2_ n3_ n4_
                 have hcz64_0 := bc2_0 BK1010
                 have hcz64_1 := bc2_1 BK1010
                 have hfz64_0 := bf_ BK1010 0
                 have hfz64_1 := bf_ BK1010 1
                 try go_wp2
                 go_roundg k2
                 case measure => have := HJ3.out; have := HK2.out; omega
                 case rel => exact ⟨(wrap64 (x8_2 - 1)), (y1015), (wrap64 (x1011001_2 + 1)), (.slice (some ⟨go53, 0, none⟩) y1011.length co58), rs_, H', ⟨by have := HJ3.out; have := HK2.out; omega⟩, ⟨by (with_reducible repeat (first | apply Kd.R_alloc | apply Kd.R_drewN | apply Kd.R_drew)); exact Kd.R_mono (Kd.R_far (p := ⟨gb1010, 1, none⟩) (Kd.R_types HO1013.out BK1010.out (by decide)) (fun _ hk => hk.2) (.int .i64 (wrap64 (x1011001_2 + 1)))) (fun _ hk => trivial)⟩, ⟨by (with_reducible repeat (first | refine blk_drewN ?_ _ | refine blk_drew ?_ | refine blk_alloc ?_ _)); refine blk_far ?_ NB1001_1010.out _; (with_reducible repeat (first | refine blk_drewN ?_ _ | refine blk_drew ?_ | refine blk_alloc ?_ _)); exact BK1001.out⟩, ⟨by (with_reducible repeat (first | refine blk_drewN ?_ _ | refine blk_drew ?_ | refine blk_alloc ?_ _)); refine blk_far ?_ NB1002_1010.out _; (with_reducible repeat (first | refine blk_drewN ?_ _ | refine blk_drew ?_ | refine blk_alloc ?_ _)); exact BK1002.out⟩, ⟨by (with_reducible repeat (first | refine blk_drewN ?_ _ | refine blk_drew ?_ | refine blk_alloc ?_ _)); refine blk_put (cs := #[.slice (some ⟨go53, 0, none⟩) y1011.length co58, .int .i64 x1011001_2]) ?_ 1 _ rfl; (with_reducible repeat (first | refine blk_drewN ?_ _ | refine blk_drew ?_ | refine blk_alloc ?_ _)); exact BK1010.out⟩, ⟨bg_⟩⟩
                ·rw [if_neg c51] at H
                 exact absurd H (by simp)
               ·rw [if_neg c49] at H
                exact absurd H (by simp)
              ·rw [if_neg c48] at H
               exact absurd H (by simp)
             ·rw [if_neg c46] at H
              have c46b0 : ((Go.bits .and .u64 (ji45) 1) == 1) = false := beq_eq_false_iff_ne.mpr c46
              have c46b1 : ((Go.bits .and .u64 (ji45) 1) != 1) = true := bne_iff_ne.mpr c46
              have H' := am_ H
              clear H
              have hnb65 := NB1010_1001.out
              have hnc65 := NB1001_1010.out
              have hnb66 := NB1010_1002.out
              have hnc66 := NB1002_1010.out
              have hcz67_0 := bc2_0 BK1010
              have hcz67_1 := bc2_1 BK1010
              have hfz67_0 := bf_ BK1010 0
              have hfz67_1 := bf_ BK1010 1
              go_wp2_with (first | ((with_reducible refine gate_builtin (b := .append) (xs := #[.tmp 50, .tmp 51]) rfl ?_); at_builtin; refine Kd.R_append (Kd.int .u8) (w0 := w) w.heap.size rfl (.tmp 50) (.tmp 51) 22 5 (.int .u8 0) 1 rfl Try.underlying22 info5 rfl (by decide) (by omega) u1011000 x1011000_2 0 [.int .u8 0] (fun _ => True) (fun _ => False) rfl rfl ?aP (fun _ hk => hk.elim) ?aF ?aO ?aB ?aS ?aL ?_; (case aP => exact rfl); (case aB => exact bg_); (case aF => exact (fun _ _ => trivial)); (case aO => exact (ro_ HO_1011000)); (case aS => exact (below_size bg_)); (case aL => have := LMc43.out; omega); intro v1012 w68 ho hb hg hat; rw [← Ny1011.out] at ho; have n0_ := am_ (blk_grown (g := gb1001) (o := .cells #[.slice A0_0 l0_0.length c0_0, .int .i64 a0_1] 28 (0, 0)) (vk_ BK1001) hg (Kd.R_ne HO_1011000.out BK1001.out (by decide))); have n1_ := am_ (blk_grown (g := gb1002) (o := .cells #[.slice none 0 0, .int .i64 0] 28 (0, 0)) (vk_ BK1002) hg (Kd.R_ne HO_1011000.out BK1002.out (by decide))); have n2_ := am_ (blk_grown (g := gb1010) (o := .cells #[u1011000, .int .i64 x1011001_2] 28 (0, 0)) (vk_ BK1010) hg (Kd.R_ne HO_1011000.out BK1010.out (by decide))); have n3_ := am_ (hb); have n4_ := am_ (ho); clear BK1001; clear BK1002; clear BK1010; clear HB; clear HO_1011000; have BK1001 := n0_; have BK1002 := n1_; have BK1010 := n2_; have HB := n3_; have HO1013 := n4_; clear n0_ n1_ n2_ n3_ n4_; clear ho hb hg hat; obtain ⟨Ao69, co69, eo69⟩ := Kd.R_slice HO1013.out; subst eo69; have hcz70_0 := bc2_0 BK1010; have hcz70_1 := bc2_1 BK1010; have hfz70_0 := bf_ BK1010 0; have hfz70_1 := bf_ BK1010 1))
              go_roundg k2
              case measure => have := HJ3.out; have := HK2.out; omega
              case rel => exact ⟨(wrap64 (x8_2 - 1)), (y1011), (wrap64 (x1011001_2 + 1)), (.slice Ao69 y1011.length co69), rs_, H', ⟨by have := HJ3.out; have := HK2.out; omega⟩, ⟨by (with_reducible repeat (first | apply Kd.R_alloc | apply Kd.R_drewN | apply Kd.R_drew)); exact Kd.R_mono (Kd.R_far (p := ⟨gb1010, 1, none⟩) (Kd.R_far (p := ⟨gb1010, 0, none⟩) (Kd.R_types HO1013.out BK1010.out (by decide)) (fun _ hk => hk.2) (.slice Ao69 y1011.length co69)) (fun _ hk => hk.2) (.int .i64 (wrap64 (x1011001_2 + 1)))) (fun _ hk => trivial)⟩, ⟨by (with_reducible repeat (first | refine blk_drewN ?_ _ | refine blk_drew ?_ | refine blk_alloc ?_ _)); refine blk_far ?_ NB1001_1010.out _; (with_reducible repeat (first | refine blk_drewN ?_ _ | refine blk_drew ?_ | refine blk_alloc ?_ _)); refine blk_far ?_ NB1001_1010.out _; (with_reducible repeat (first | refine blk_drewN ?_ _ | refine blk_drew ?_ | refine blk_alloc ?_ _)); exact BK1001.out⟩, ⟨by (with_reducible repeat (first | refine blk_drewN ?_ _ | refine blk_drew ?_ | refine blk_alloc ?_ _)); refine blk_far ?_ NB1002_1010.out _; (with_reducible repeat (first | refine blk_drewN ?_ _ | refine blk_drew ?_ | refine blk_alloc ?_ _)); refine blk_far ?_ NB1002_1010.out _; (with_reducible repeat (first | refine blk_drewN ?_ _ | refine blk_drew ?_ | refine blk_alloc ?_ _)); exact BK1002.out⟩, ⟨by (with_reducible repeat (first | refine blk_drewN ?_ _ | refine blk_drew ?_ | refine blk_alloc ?_ _)); refine blk_put (cs := #[.slice Ao69 y1011.length co69, .int .i64 x1011001_2]) ?_ 1 _ rfl; (with_reducible repeat (first | refine blk_drewN ?_ _ | refine blk_drew ?_ | refine blk_alloc ?_ _)); refine blk_put (cs := #[u1011000, .int .i64 x1011001_2]) ?_ 0 _ rfl; (with_reducible repeat (first | refine blk_drewN ?_ _ | refine blk_drew ?_ | refine blk_alloc ?_ _)); exact BK1010.out⟩, ⟨bg_⟩⟩
            ·rw [if_neg c44] at H
             exact absurd H (by simp)
           ·rw [if_neg c43] at H
            exact absurd H (by simp)
          ·rw [if_neg c42] at H
           have c42b0 : ((Int.tmod x1011001_2 8) == 0) = false := beq_eq_false_iff_ne.mpr c42
           have c42b1 : ((Int.tmod x1011001_2 8) != 0) = true := bne_iff_ne.mpr c42
           by_cases c71 : 0 ≤ x8_2
           ·rw [if_pos c71] at H
            have c71b0 := eq_true c71
            have c71b1 : decide (0 ≤ x8_2) = true := decide_eq_true c71
            clear c71
            obtain ⟨ji72, hji72⟩ : ∃ j_ : Int, (shr .u64 (IntKind.u64.wrap (a1)) x8_2) = j_ := ⟨_, rfl⟩
            replace H : (if (Go.bits .and .u64 (ji72) 1) = 1 then (if 0 ≤ (wrap64 (Int.tdiv x1011001_2 8)) then (if (wrap64 (Int.tdiv x1011001_2 8)) < (x1011000_2.length : Int) then (if 0 ≤ (Int.tmod x1011001_2 8) then (impl_AddBits.l0 k2 a1 (wrap64 (x8_2 - 1)) (x1011000_2.set ((wrap64 (Int.tdiv x1011001_2 8)) : Int).toNat (Go.bits .or .u8 (rd x1011000_2 (wrap64 (Int.tdiv x1011001_2 8))) (shr .u8 128 (Int.tmod x1011001_2 8)))) (wrap64 (x1011001_2 + 1))) else (none)) else (none)) else (none)) else (impl_AddBits.l0 k2 a1 (wrap64 (x8_2 - 1)) x1011000_2 (wrap64 (x1011001_2 + 1)))) = some (r1, r2) := by first | (rw [hji72] at H; exact H) | (simp only [hji72] at H ⊢; exact H)
            have hji72_ : ((IntKind.u64.wrap (a1)) / 2 ^ min x8_2.toNat 64) = ji72 := hji72
            have hji72z : x8_2 ≤ 64 → ((IntKind.u64.wrap (a1)) / 2 ^ x8_2.toNat) = ji72 := shr_small hji72
            by_cases c73 : (Go.bits .and .u64 (ji72) 1) = 1
            ·rw [if_pos c73] at H
             have c73b0 : ((Go.bits .and .u64 (ji72) 1) == 1) = true := beq_iff_eq.mpr c73
             have c73b1 : ((Go.bits .and .u64 (ji72) 1) != 1) = false := bne_eq_false_iff_eq.mpr c73
             clear c73
             obtain ⟨ji74, hji74⟩ : ∃ j_ : Int, (wrap64 (Int.tdiv x1011001_2 8)) = j_ := ⟨_, rfl⟩
             replace H : (if 0 ≤ (ji74) then (if (ji74) < (x1011000_2.length : Int) then (if 0 ≤ (Int.tmod x1011001_2 8) then (impl_AddBits.l0 k2 a1 (wrap64 (x8_2 - 1)) (x1011000_2.set ((ji74) : Int).toNat (Go.bits .or .u8 (rd x1011000_2 (ji74)) (shr .u8 128 (Int.tmod x1011001_2 8)))) (wrap64 (x1011001_2 + 1))) else (none)) else (none)) else (none)) = some (r1, r2) := by first | (rw [hji74] at H; exact H) | (simp only [hji74] at H ⊢; exact H)
             have hji74w : (IntKind.i64.wrap (Int.tdiv x1011001_2 8)) = ji74 := (i64_w _).trans hji74
             by_cases c75 : 0 ≤ (ji74)
             ·rw [if_pos c75] at H
              have c75b0 : decide (0 ≤ (ji74)) = true := decide_eq_true c75
              clear c75
              by_cases c76 : (ji74) < (x1011000_2.length : Int)
              ·rw [if_pos c76] at H
               have c76b0 : decide ((ji74) < (x1011000_2.length : Int)) = true := decide_eq_true c76
               clear c76
               obtain ⟨ji77, hji77⟩ : ∃ j_ : Int, (Int.tmod x1011001_2 8) = j_ := ⟨_, rfl⟩
               have hji77b : ji77 ≤ 8 := by rw [← hji77]; exact Int.le_of_lt (Int.tmod_lt_of_pos _ (by decide))
               replace H : (if 0 ≤ (ji77) then (impl_AddBits.l0 k2 a1 (wrap64 (x8_2 - 1)) (x1011000_2.set ((ji74) : Int).toNat (Go.bits .or .u8 (rd x1011000_2 (ji74)) (shr .u8 128 (ji77)))) (wrap64 (x1011001_2 + 1))) else (none)) = some (r1, r2) := by first | (rw [hji77] at H; exact H) | (simp only [hji77] at H ⊢; exact H)
               (try rw [hji77] at c42b0)
               (try rw [hji77] at c42b1)
               by_cases c78 : 0 ≤ (ji77)
               ·rw [if_pos c78] at H
                have c78b0 := eq_true c78
                have c78b1 : decide (0 ≤ (ji77)) = true := decide_eq_true c78
                clear c78
                obtain ⟨ji79, hji79⟩ : ∃ j_ : Int, (shr .u8 128 (ji77)) = j_ := ⟨_, rfl⟩
                replace H : (impl_AddBits.l0 k2 a1 (wrap64 (x8_2 - 1)) (x1011000_2.set ((ji74) : Int).toNat (Go.bits .or .u8 (rd x1011000_2 (ji74)) (ji79))) (wrap64 (x1011001_2 + 1))) = some (r1, r2) := by first | (rw [hji79] at H; exact H) | (simp only [hji79] at H ⊢; exact H)
                have hji79_ : (128 / 2 ^ min (ji77).toNat 8) = ji79 := hji79
                have hji79z : (ji77) ≤ 8 → (128 / 2 ^ (ji77).toNat) = ji79 := shr_small hji79
                obtain ⟨y1017, hy1017⟩ : ∃ y_ : List Int, y_ = (x1011000_2.set ((ji74) : Int).toNat (Go.bits .or .u8 (rd x1011000_2 (ji74)) (ji79))) := ⟨_, rfl⟩
                replace H : (impl_AddBits.l0 k2 a1 (wrap64 (x8_2 - 1)) y1017 (wrap64 (x1011001_2 + 1))) = some (r1, r2) := by first | (rw [hy1017]; with_reducible exact H) | (have H2_ := (Option.bind_some _ _).symm.trans H; rw [hy1017]; with_reducible exact H2_) | (have H2_ := (Option.bind_some _ _).symm.trans H; with_reducible exact H2_) | with_reducible exact H | (rw [hy1017]; exact H) | exact H
                have Ny1017 := am_ hy1017
                clear hy1017
                have H' := am_ H
                clear H
                have hnb81 := NB1010_1001.out
                have hnc81 := NB1001_1010.out
                have hnb82 := NB1010_1002.out
                have hnc82 := NB1002_1010.out
                have hcz83_0 := bc2_0 BK1010
                have hcz83_1 := bc2_1 BK1010
                have hfz83_0 := bf_ BK1010 0
                have hfz83_1 := bf_ BK1010 1
                try go_wp2
                have n0_ := am_ (Kd.R_drew HO_1011000.out)
                have n1_ := am_ (blk_drew BK1001.out)
                have n2_ := am_ (blk_drew BK1002.out)
                have n3_ := am_ (blk_drew BK1010.out)
                have n4_ := am_ (below_drew1 HB.out)
                clear HO_1011000
                clear BK1001
                clear BK1002
                clear BK1010
                clear HB
                have HO_1011000 := n0_
                have BK1001 := n1_
                have BK1002 := n2_
                have BK1010 := n3_
                have HB := n4_
                clear n0_ n1_ n2_ n3_ n4_
                obtain ⟨Ao85, co85, eo85⟩ := Kd.R_slice HO_1011000.out
                (first | subst eo85 | (injection eo85 with f1_ f2_ f3_; have f4_ := f1_.symm; have f5_ := f3_.symm; clear f1_ f2_ f3_; subst f4_; subst f5_))
                have p1016 : 0 ≤ ((ji74) : Int) := od_
                have q1016 : (ji74) < (x1011000_2.length : Int) := od_
                obtain ⟨ad1016, e1016, hx1016_0⟩ := Kd.at_int (Kd.R_reads' HO_1011000.out).2.2 (ji74) p1016 q1016
                cases e1016
                replace p1016 := eq_true p1016
                replace q1016 := eq_true q1016
                have p80 : 0 ≤ ((ji74) : Int) := od_
                have q80 : ((ji74) : Int) < ((x1011000_2.length : Int) : Int) := od_
                obtain ⟨go80, co80, eo80, gb80, gl80, cl80, HG80⟩ := Kd.R_form HO_1011000.out (by omega)
                (first | cases eo80 | (injection eo80 with ea_ en_ ec_; (first | subst ea_ | (injection ea_ with ea_; subst ea_)); subst ec_; clear en_))
                have GB80 := am_ gb80
                have GG80 := am_ HG80
                clear gb80 gl80 HG80
                (first | simp only [add_plain] at hx1016_0 | skip)
                obtain ⟨hx80_0, hf80_0⟩ := Kd.R_celln 0 HO_1011000.out ((ji74) : Int) p80 q80
                replace p80 := eq_true p80
                replace q80 := eq_true q80
                have HP86 := Kd.R_putn HO_1011000.out ((ji74) : Int) (Go.bits .or .u8 (rd x1011000_2 (ji74)) (ji79))
                rw [← Ny1017.out] at HP86
                have HQ86 := am_ HP86
                clear HP86
                refine start_ (n := 14) (S := fun w' => w'.cell? ⟨gb1010, 0, none⟩ = some (.slice (some ⟨go80, 0, none⟩) x1011000_2.length co85) ∧ w'.cell? ⟨gb1010, 1, none⟩ = some (.int .i64 x1011001_2) ∧ w'.cell? ⟨go80, ((ji74)).toNat, none⟩ = some (.int .u8 (rd x1011000_2 (ji74)))) (ds := [13]) (bz 14 0) (by kernel_rfl) rfl rfl ⟨(blk_cell BK1010.out 0).trans rfl, (blk_cell BK1010.out 1).trans rfl, hx1016_0⟩ (fun hHeld => ?_); refine with_tabW impl_AddBits.tab10 impl_AddBits.bits10 (fun HT_ HW_ => ?_)
                generalize wr.drew = w84 at HO_1011000 BK1001 BK1002 BK1010 HB GG80 HQ86 hf80_0 hx1016_0 hx80_0 hHeld ⊢
                refine pz_ 0 60 1 ?_
                refine pz_ 2 62 5 ?_
                refine pz_ 7 67 133 ?_
                refine tz_ 1 61 135 ?_
                refine tz_ 3 63 143 ?_
                refine pz_ 4 64 159 ?_
                refine pz_ 5 65 191 ?_
                refine tz_ 6 66 255 ?_
                refine tz_ 8 68 511 ?_
                refine pz_ 9 69 1023 ?_
                refine pz_ 10 70 2047 ?_
                refine pz_ 11 71 4095 ?_
                refine pz_ 12 72 8191 ?_
                refine last_ (i := 13) (N := none) (bz 14 16383) rfl rfl (one_of HT_.out (by kernel_rfl)) (by decide) (fun K hK => ?_)
                refine skip_ (w1 := ?_) (by rfl) rfl ?_ ?_
                rotate_left
                ·go_simp
                 rfl
                refine hK.out _ _ ?_
                clear hK K
                refine done_ (done_of HT_.out (by kernel_rfl)) ?_
                have n0_ : Aside0 (Kd.R (Kd.int .u8) 5 (w84.setCell ⟨go80, ((ji74) : Int).toNat, none⟩ (.int .u8 (Go.bits .or .u8 (rd x1011000_2 (ji74)) (ji79)))) w.heap.size (fun _ => True) (.slice (some ⟨go80, 0, none⟩) x1011000_2.length co85) y1017) := ⟨ro_ HQ86⟩
                have n1_ : Aside0 ((w84.setCell ⟨go80, ((ji74) : Int).toNat, none⟩ (.int .u8 (Go.bits .or .u8 (rd x1011000_2 (ji74)) (ji79)))).heap[gb1001]? = some (.cells #[.slice A0_0 l0_0.length c0_0, .int .i64 a0_1] 28 (0, 0))) := ⟨by (with_reducible repeat (first | refine blk_drewN ?_ _ | refine blk_drew ?_ | refine blk_alloc ?_ _)); refine blk_far ?_ (by have h_ := Kd.R_ne HO_1011000.out BK1001.out (by decide); intro e_; exact h_ (by rw [e_]; rfl)) _; (with_reducible repeat (first | refine blk_drewN ?_ _ | refine blk_drew ?_ | refine blk_alloc ?_ _)); exact BK1001.out⟩
                have n2_ : Aside0 ((w84.setCell ⟨go80, ((ji74) : Int).toNat, none⟩ (.int .u8 (Go.bits .or .u8 (rd x1011000_2 (ji74)) (ji79)))).heap[gb1002]? = some (.cells #[.slice none 0 0, .int .i64 0] 28 (0, 0))) := ⟨by (with_reducible repeat (first | refine blk_drewN ?_ _ | refine blk_drew ?_ | refine blk_alloc ?_ _)); refine blk_far ?_ (by have h_ := Kd.R_ne HO_1011000.out BK1002.out (by decide); intro e_; exact h_ (by rw [e_]; rfl)) _; (with_reducible repeat (first | refine blk_drewN ?_ _ | refine blk_drew ?_ | refine blk_alloc ?_ _)); exact BK1002.out⟩
                have n3_ : Aside0 ((w84.setCell ⟨go80, ((ji74) : Int).toNat, none⟩ (.int .u8 (Go.bits .or .u8 (rd x1011000_2 (ji74)) (ji79)))).heap[gb1010]? = some (.cells #[.slice (some ⟨go80, 0, none⟩) x1011000_2.length co85, .int .i64 x1011001_2] 28 (0, 0))) := ⟨by (with_reducible repeat (first | refine blk_drewN ?_ _ | refine blk_drew ?_ | refine blk_alloc ?_ _)); refine blk_far ?_ (by have h_ := Kd.R_ne HO_1011000.out BK1010.out (by decide); intro e_; exact h_ (by rw [e_]; rfl)) _; (with_reducible repeat (first | refine blk_drewN ?_ _ | refine blk_drew ?_ | refine blk_alloc ?_ _)); exact BK1010.out⟩
                have n4_ : Aside0 (Below w.heap.size w (w84.setCell ⟨go80, ((ji74) : Int).toNat, none⟩ (.int .u8 (Go.bits .or .u8 (rd x1011000_2 (ji74)) (ji79))))) := ⟨bg_⟩
                (try clear HO_1011000)
                (try clear BK1001)
                (try clear BK1002)
                (try clear BK1010)
                (try clear HB)
                generalize (w84.setCell ⟨go80, ((ji74) : Int).toNat, none⟩ (.int .u8 (Go.bits .or .u8 (rd x1011000_2 (ji74)) (ji79)))) = w87 at n0_ n1_ n2_ n3_ n4_ ⊢
                have HO_1011000 := n0_
                have BK1001 := n1_
                have BK1002 := n2_
                have BK1010 := n3_
                have HB := n4_
                clear n0_ n1_ n2_ n3_ n4_
                have hcz88_0 := bc2_0 BK1010
                have hcz88_1 := bc2_1 BK1010
                have hfz88_0 := bf_ BK1010 0
                have hfz88_1 := bf_ BK1010 1
                try go_wp2
                go_roundg k2
                case measure => have := HJ3.out; have := HK2.out; omega
                case rel => exact ⟨(wrap64 (x8_2 - 1)), (y1017), (wrap64 (x1011001_2 + 1)), (.slice (some ⟨go80, 0, none⟩) x1011000_2.length co85), rs_, H', ⟨by have := HJ3.out; have := HK2.out; omega⟩, ⟨by (with_reducible repeat (first | apply Kd.R_alloc | apply Kd.R_drewN | apply Kd.R_drew)); exact Kd.R_mono (Kd.R_far (p := ⟨gb1010, 1, none⟩) (Kd.R_types HO_1011000.out BK1010.out (by decide)) (fun _ hk => hk.2) (.int .i64 (wrap64 (x1011001_2 + 1)))) (fun _ hk => trivial)⟩, ⟨by (with_reducible repeat (first | refine blk_drewN ?_ _ | refine blk_drew ?_ | refine blk_alloc ?_ _)); refine blk_far ?_ NB1001_1010.out _; (with_reducible repeat (first | refine blk_drewN ?_ _ | refine blk_drew ?_ | refine blk_alloc ?_ _)); exact BK1001.out⟩, ⟨by (with_reducible repeat (first | refine blk_drewN ?_ _ | refine blk_drew ?_ | refine blk_alloc ?_ _)); refine blk_far ?_ NB1002_1010.out _; (with_reducible repeat (first | refine blk_drewN ?_ _ | refine blk_drew ?_ | refine blk_alloc ?_ _)); exact BK1002.out⟩, ⟨by (with_reducible repeat (first | refine blk_drewN ?_ _ | refine blk_drew ?_ | refine blk_alloc ?_ _)); refine blk_put (cs := #[.slice (some ⟨go80, 0, none⟩) x1011000_2.length co85, .int .i64 x1011001_2]) ?_ 1 _ rfl; (with_reducible repeat (first | refine blk_drewN ?_ _ | refine blk_drew ?_ | refine blk_alloc ?_ _)); exact BK1010.out⟩, ⟨bg_⟩⟩
               ·rw [if_neg c78] at H
                exact absurd H (by simp)
              ·rw [if_neg c76] at H
               exact absurd H (by simp)
             ·rw [if_neg c75] at H
              exact absurd H (by simp)
            ·rw [if_neg c73] at H
             have c73b0 : ((Go.bits .and .u64 (ji72) 1) == 1) = false := beq_eq_false_iff_ne.mpr c73
             have c73b1 : ((Go.bits .and .u64 (ji72) 1) != 1) = true := bne_iff_ne.mpr c73
             have H' := am_ H
             clear H
             have hnb89 := NB1010_1001.out
             have hnc89 := NB1001_1010.out
             have hnb90 := NB1010_1002.out
             have hnc90 := NB1002_1010.out
             have hcz91_0 := bc2_0 BK1010
             have hcz91_1 := bc2_1 BK1010
             have hfz91_0 := bf_ BK1010 0
             have hfz91_1 := bf_ BK1010 1
             go_wp2
             go_roundg k2
             case measure => have := HJ3.out; have := HK2.out; omega
             case rel => exact ⟨(wrap64 (x8_2 - 1)), (x1011000_2), (wrap64 (x1011001_2 + 1)), (u1011000), rs_, H', ⟨by have := HJ3.out; have := HK2.out; omega⟩, ⟨by (with_reducible repeat (first | apply Kd.R_alloc | apply Kd.R_drewN | apply Kd.R_drew)); exact Kd.R_mono (Kd.R_far (p := ⟨gb1010, 1, none⟩) (Kd.R_types HO_1011000.out BK1010.out (by decide)) (fun _ hk => hk.2) (.int .i64 (wrap64 (x1011001_2 + 1)))) (fun _ hk => trivial)⟩, ⟨by (with_reducible repeat (first | refine blk_drewN ?_ _ | refine blk_drew ?_ | refine blk_alloc ?_ _)); refine blk_far ?_ NB1001_1010.out _; (with_reducible repeat (first | refine blk_drewN ?_ _ | refine blk_drew ?_ | refine blk_alloc ?_ _)); exact BK1001.out⟩, ⟨by (with_reducible repeat (first | refine blk_drewN ?_ _ | refine blk_drew ?_ | refine blk_alloc ?_ _)); refine blk_far ?_ NB1002_1010.out _; (with_reducible repeat (first | refine blk_drewN ?_ _ | refine blk_drew ?_ | refine blk_alloc ?_ _)); exact BK1002.out⟩, ⟨by (with_reducible repeat (first | refine blk_drewN ?_ _ | refine blk_drew ?_ | refine blk_alloc ?_ _)); refine blk_put (cs := #[u1011000, .int .i64 x1011001_2]) ?_ 1 _ rfl; (with_reducible repeat (first | refine blk_drewN ?_ _ | refine blk_drew ?_ | refine blk_alloc ?_ _)); exact BK1010.out⟩, ⟨bg_⟩⟩
           ·rw [if_neg c71] at H
            exact absurd H (by simp)
         ·rw [if_neg c41] at H
          have c41b0 : decide (0 ≤ x8_2) = false := decide_eq_false c41
          clear c41
          simp only [Option.some.injEq, Prod.mk.injEq] at H
          obtain ⟨rfl, rfl⟩ := H
          have hnb92 := NB1010_1001.out
          have hnc92 := NB1001_1010.out
          have hnb93 := NB1010_1002.out
          have hnc93 := NB1002_1010.out
          have hcz94_0 := bc2_0 BK1010
          have hcz94_1 := bc2_1 BK1010
          have hfz94_0 := bf_ BK1010 0
          have hfz94_1 := bf_ BK1010 1
          obtain ⟨Ao95, co95, eo95⟩ := Kd.R_slice HO_1011000.out
          subst eo95
          have hnb96 := NB1002_1001.out
          have hnc96 := NB1001_1002.out
          have hcz97_0 := bc2_0 BK1002
          have hcz97_1 := bc2_1 BK1002
          have hfz97_0 := bf_ BK1002 0
          have hfz97_1 := bf_ BK1002 1
          go_wp2
          refine bodyPost_ret (results_cell_row rfl _ _ gb1002 28 #[.slice Ao95 x1011000_2.length co95, .int .i64 x1011001_2] (0, 0) _ rfl (by (with_reducible repeat (first | refine blk_drewN ?_ _ | refine blk_drew ?_ | refine blk_alloc ?_ _)); refine blk_put (cs := #[.slice Ao95 x1011000_2.length co95, .int .i64 0]) ?_ 1 _ rfl; (with_reducible repeat (first | refine blk_drewN ?_ _ | refine blk_drew ?_ | refine blk_alloc ?_ _)); refine blk_put (cs := #[.slice none 0 0, .int .i64 0]) ?_ 0 _ rfl; (with_reducible repeat (first | refine blk_drewN ?_ _ | refine blk_drew ?_ | refine blk_alloc ?_ _)); exact BK1002.out) Try.underlying28 rfl (by kernel_rfl)) rfl ?_
          exact ⟨_, by first | rfl | (simp [errW_none, errW_some] <;> rfl) | (simp only [← hji27]; first | rfl | (simp [errW_none, errW_some] <;> rfl)) | (simp [*, errW_none, errW_some] <;> rfl) | (simp [*, Go.Proofs.Ytjapdjkckhcelaa.Gt.nil_bne]; done), by (with_reducible repeat (first | apply Kd.R_alloc | apply Kd.R_drewN | apply Kd.R_drew)); exact Kd.R_mono (Kd.R_far (p := ⟨gb1002, 1, none⟩) (Kd.R_far (p := ⟨gb1002, 0, none⟩) (Kd.R_types HO_1011000.out BK1002.out (by decide)) (fun _ hk => hk.2) (.slice Ao95 x1011000_2.length co95)) (fun _ hk => hk.2) (.int .i64 x1011001_2)) (fun _ hk => trivial), bg_⟩
      ·rw [if_neg c30] at H
       exact absurd H (by simp)
     ·rw [if_neg c29] at H
      exact absurd H (by simp)
    ·rw [if_neg c28] at H
     exact absurd H (by simp)

/-! ### laws_markByteS: function 70 -/
def laws_markByteS.l0 : Nat → List Int → Int → Int → Option (Int × List Int)
 | 0, _, _, _ => none
 | k + 1, x0, x1, x5 => if x5 < (x0.length : Int) then (if 0 ≤ x5 then (laws_markByteS.l0 k (x0.set (x5 : Int).toNat ((x1) % 256)) (wrap64 (x1 + 1)) (wrap64 (x5 + 1))) else (none)) else (some (x1, x0))
def laws_markByteS.f (k : Nat) (l0 : List Int) (a1 : Int) : Option (Int × List Int) := laws_markByteS.l0 k l0 a1 0
theorem laws_markByteS.mono_l : ∀ k, (∀ y0 y1 y2, LeO (laws_markByteS.l0 k y0 y1 y2) (laws_markByteS.l0 (k + 1) y0 y1 y2))
 | 0 => fun _ _ _ r h => by simp [laws_markByteS.l0] at h
 | k + 1 => by
  have ih0 := laws_markByteS.mono_l k
  ·intro y0 y1 y2
   unfold laws_markByteS.l0
   repeat' first
   | with_reducible first | exact ih0 _ _ _ | exact LeO.refl _ | exact LeO.none _ | refine LeO.ite ?_ ?_ | refine LeO.bind ?_ (fun _ => ?_)
   | exact ih0 _ _ _
   | exact LeO.none _
   | refine LeO.ite ?_ ?_
   | refine LeO.bind ?_ (fun _ => ?_)
theorem laws_markByteS.mono : ∀ a0 a1 k, LeO (laws_markByteS.f k a0 a1) (laws_markByteS.f (k + 1) a0 a1) := by
 intro a0 a1 k
 have ih0 := laws_markByteS.mono_l k
 unfold laws_markByteS.f
 repeat' first
   | with_reducible first | exact ih0 _ _ _ | exact LeO.refl _ | exact LeO.none _ | refine LeO.ite ?_ ?_ | refine LeO.bind ?_ (fun _ => ?_)
   | exact ih0 _ _ _
   | exact LeO.none _
   | refine LeO.ite ?_ ?_
   | refine LeO.bind ?_ (fun _ => ?_)
set_option maxHeartbeats 8000000 in
set_option maxRecDepth 100000 in
theorem laws_markByteS.calls (k : Nat) (P0_ : Nat → Prop) (u9000_ : Value) (l0 : List Int) (a1 : Int) (r1 : Int) (r2 : List Int) (w0 w : World) (hB : Below w0.heap.size w0 w) (ho0 : Kd.R (Kd.int .u8) 5 w w0.heap.size P0_ u9000_ l0) (h : laws_markByteS.f k l0 a1 = some (r1, r2)) :
  Calls Try.prog 70 #[u9000_, .int .i64 a1] w fun e w' => e = .returned (.int .i64 r1) ∧ Kd.R (Kd.int .u8) 5 w' w0.heap.size (fun k_ => (P0_ k_ ∨ w.heap.size ≤ k_)) u9000_ r2 ∧ Below w0.heap.size w0 w' ∧ Kept w w' (fun k_ => P0_ k_) := by
 have HO0 := am_ (show Kd.R (Kd.int .u8) 5 w w0.heap.size (fun k_ => (P0_ k_ ∨ w.heap.size ≤ k_)) u9000_ l0 from Kd.R_mono ho0 (fun k_ hk => (.inl hk)))
 have HK := am_ (Kept.refl w (fun k_ => P0_ k_))
 have HW0 := am_ hB.size
 have HB := am_ hB
 clear hB
 have H : (laws_markByteS.l0 k l0 a1 0) = some (r1, r2) := h
 clear h
 have H' := am_ H
 clear H
 go_enter Try.func70, Try.ntmps70
 go_wp2
 go_loopg [1, 5] k (fun kq v1 v5 w' => ∃ (x0_1 : List Int) (x1_1 : Int) (x5_1 : Int), v1 = .int .i64 x1_1 ∧ v5 = .int .i64 x5_1 ∧ Aside0 (laws_markByteS.l0 kq x0_1 x1_1 x5_1 = some (r1, r2)) ∧ Aside0 (kq ≤ k) ∧ Aside0 (Kd.R (Kd.int .u8) 5 w' w0.heap.size (fun k_ => (P0_ k_ ∨ w.heap.size ≤ k_)) u9000_ x0_1) ∧ Aside0 (Kept w w' (fun k_ => P0_ k_)) ∧ Aside0 (Below w0.heap.size w0 w'))
 case atStart => exact ⟨(l0), (a1), (0), rs_, rs_, H', ⟨Nat.le_refl _⟩, ⟨ro_ HO0⟩, ⟨by repeat (first | (with_reducible first | exact HK.out | apply Kept.alloc | apply Kept.drewN | apply Kept.drew) | exact HK.out)⟩, ⟨bl_⟩⟩
 case round =>
  clear H'
  try clear p2
  obtain ⟨x0_1, x1_1, x5_1, rfl, rfl, HA, HK1, HO_0, HK, HB⟩ := hrel
  cases gk with
  | zero => exact absurd HA.out (by simp [laws_markByteS.l0])
  | succ k1 =>
   have H := HA.out
   clear HA
   simp only [laws_markByteS.l0] at H
   by_cases c3 : x5_1 < (x0_1.length : Int)
   ·rw [if_pos c3] at H
    have c3b0 : decide (x5_1 < (x0_1.length : Int)) = true := decide_eq_true c3
    clear c3
    by_cases c4 : 0 ≤ x5_1
    ·rw [if_pos c4] at H
     have c4b0 : decide (0 ≤ x5_1) = true := decide_eq_true c4
     clear c4
     obtain ⟨y1001, hy1001⟩ : ∃ y_ : List Int, y_ = (x0_1.set (x5_1 : Int).toNat ((x1_1) % 256)) := ⟨_, rfl⟩
     replace H : (laws_markByteS.l0 k1 y1001 (wrap64 (x1_1 + 1)) (wrap64 (x5_1 + 1))) = some (r1, r2) := by first | (rw [hy1001]; with_reducible exact H) | (have H2_ := (Option.bind_some _ _).symm.trans H; rw [hy1001]; with_reducible exact H2_) | (have H2_ := (Option.bind_some _ _).symm.trans H; with_reducible exact H2_) | with_reducible exact H | (rw [hy1001]; exact H) | exact H
     have Ny1001 := am_ hy1001
     clear hy1001
     have H' := am_ H
     clear H
     obtain ⟨Ao6, co6, eo6⟩ := Kd.R_slice HO_0.out
     subst eo6
     have p5 : 0 ≤ (x5_1 : Int) := od_
     have q5 : (x5_1 : Int) < ((x0_1.length : Int) : Int) := od_
     obtain ⟨go5, co5, eo5, gb5, gl5, cl5, HG5⟩ := Kd.R_form HO_0.out (by omega)
     (first | cases eo5 | (injection eo5 with ea_ en_ ec_; (first | subst ea_ | (injection ea_ with ea_; subst ea_)); subst ec_; clear en_))
     have GB5 := am_ gb5
     have GG5 := am_ HG5
     clear gb5 gl5 HG5
     have HMgo5 := am_ (show (P0_ go5 ∨ w.heap.size ≤ go5) from (HO_0.out.1 _ rfl))
     obtain ⟨hx5_0, hf5_0⟩ := Kd.R_celln 0 HO_0.out (x5_1 : Int) p5 q5
     replace p5 := eq_true p5
     replace q5 := eq_true q5
     have HP7 := Kd.R_putg HO_0.out (x5_1 : Int) ((x1_1) % 256)
     go_wp2_with (first | ((with_reducible refine gate_store (t := 5) (p := 16) rfl ?_); refine store_event (t := 5) (p := 16) (v := ?vo_w8) (w1 := (wr.setCell ⟨go5, (x5_1 : Int).toNat, none⟩ (.int .u8 ((x1_1) % 256)))) ?hg ?ho ?hn ?hr ?_; (case ho => rfl); (case hg => rfl); (case hn => rfl); (case hr => first | (go_simp; done) | (go_simp; rfl)); intro w8 hw; have hg : wr.grownBy w8 (some go5) := (by rw [hw]; exact HP7.2); have hp_ : Kd.R (Kd.int .u8) 5 w8 w0.heap.size (fun k_ => (P0_ k_ ∨ w.heap.size ≤ k_)) (.slice (some ⟨go5, 0, none⟩) x0_1.length co6) y1001 := (by rw [hw, Ny1001.out]; exact HP7.1); clear HP7; have n0_ := am_ (hp_); have n1_ := am_ ((by rw [hw]; exact below_set (HB.out) GB5.out : Below w0.heap.size w0 w8)); have n2_ := am_ (Kept.of_grown (S := (fun k_ => P0_ k_)) hg (by repeat (first | (with_reducible first | exact HK.out | apply Kept.alloc | apply Kept.drewN | apply Kept.drew) | exact HK.out)) (fun k_ e_ => (HO_0.out.1 k_ e_))); clear HO_0; clear HB; clear HK; have HO_0 := n0_; have HB := n1_; have HK := n2_; clear n0_ n1_ n2_; clear hg hw hp_))
     go_roundg k1
     case measure => have := HK1.out; omega
     case rel => exact ⟨(y1001), (wrap64 (x1_1 + 1)), (wrap64 (x5_1 + 1)), rs_, rs_, H', ⟨by have := HK1.out; omega⟩, ⟨ro_ HO_0⟩, ⟨by repeat (first | (with_reducible first | exact HK.out | apply Kept.alloc | apply Kept.drewN | apply Kept.drew) | exact HK.out)⟩, ⟨bl_⟩⟩
    ·rw [if_neg c4] at H
     exact absurd H (by simp)
   ·rw [if_neg c3] at H
    have c3b0 : decide (x5_1 < (x0_1.length : Int)) = false := decide_eq_false c3
    clear c3
    simp only [Option.some.injEq, Prod.mk.injEq] at H
    obtain ⟨rfl, rfl⟩ := H
    obtain ⟨Ao9, co9, eo9⟩ := Kd.R_slice HO_0.out
    subst eo9
    go_wp2
    go_ret
    exact ⟨rf_, by (with_reducible repeat (first | apply Kd.R_alloc | apply Kd.R_drewN | apply Kd.R_drew)); exact HO_0.out, bl_, by repeat (first | (with_reducible first | exact HK.out | apply Kept.alloc | apply Kept.drewN | apply Kept.drew) | exact HK.out)⟩

/-! ### laws_markBits: function 22 -/
def laws_markBits.f (k : Nat) (l0_0 : List Int) (a0_1 : Int) (a1 : Int) : Option (Int × List Int) := (laws_markByteS.f k l0_0 a1).bind fun bt1002 => (some (bt1002.1, bt1002.2))
theorem laws_markBits.mono : ∀ a0 a1 a2 k, LeO (laws_markBits.f k a0 a1 a2) (laws_markBits.f (k + 1) a0 a1 a2) := by
 intro a0 a1 a2 k
 unfold laws_markBits.f
 repeat' first
   | with_reducible first | exact laws_markByteS.mono _ _ _ | exact LeO.refl _ | exact LeO.none _ | refine LeO.ite ?_ ?_ | refine LeO.bind ?_ (fun _ => ?_)
   | exact laws_markByteS.mono _ _ _
   | exact LeO.none _
   | refine LeO.ite ?_ ?_
   | refine LeO.bind ?_ (fun _ => ?_)
set_option maxHeartbeats 8000000 in
set_option maxRecDepth 100000 in
theorem laws_markBits.calls (k : Nat) (P0_0_ : Nat → Prop) (u9000_ : Value) (l0_0 : List Int) (a0_1 : Int) (a1 : Int) (r1 : Int) (r2 : List Int) (w0 w : World) (hB : Below w0.heap.size w0 w) (ho0_0 : Kd.R (Kd.int .u8) 5 w w0.heap.size P0_0_ u9000_ l0_0) (h : laws_markBits.f k l0_0 a0_1 a1 = some (r1, r2)) :
  Calls Try.prog 22 #[.agg #[u9000_, .int .i64 a0_1], .int .i64 a1] w fun e w' => e = .returned (.int .i64 r1) ∧ Kd.R (Kd.int .u8) 5 w' w0.heap.size (fun k_ => (P0_0_ k_ ∨ w.heap.size ≤ k_)) u9000_ r2 ∧ Below w0.heap.size w0 w' ∧ Kept w w' (fun k_ => P0_0_ k_) := by
 have hu28 := Try.underlying28
 have HO0_0 := am_ (show Kd.R (Kd.int .u8) 5 w w0.heap.size (fun k_ => (P0_0_ k_ ∨ w.heap.size ≤ k_)) u9000_ l0_0 from Kd.R_mono ho0_0 (fun k_ hk => (.inl hk)))
 have HK := am_ (Kept.refl w (fun k_ => P0_0_ k_))
 have HW0 := am_ hB.size
 have HB := am_ hB
 clear hB
 have H : ((laws_markByteS.f k l0_0 a1).bind fun bt1002 => (some (bt1002.1, bt1002.2))) = some (r1, r2) := h
 clear h
 replace H := Option.bind_eq_some_iff.mp H
 obtain ⟨⟨t1002, t1003⟩, A30, H⟩ := H
 replace H : (some (t1002, t1003)) = some (r1, r2) := H
 have A3 := am_ A30
 clear A30
 simp only [Option.some.injEq, Prod.mk.injEq] at H
 obtain ⟨rfl, rfl⟩ := H
 obtain ⟨Ao4, co4, eo4⟩ := Kd.R_slice HO0_0.out
 subst eo4
 go_enter Try.func22, Try.ntmps22
 go_wp2_with (first | ((with_reducible refine gate_dst (N := 2) rfl ?_); refine box_event ?hg (N := 2) ?hd (cs := #[.slice Ao4 l0_0.length co4, .int .i64 a0_1]) (t := 28) ?hr ?_; (case hd => rfl); (case hg => rfl); (case hr => first | (go_simp; done) | (go_simp; rfl)); intro gb1001 hg w5 hbox hb; have n0_ := am_ (Kd.R_below (ro_ HO0_0) hb); have n1_ := am_ (Kept.below (S := (fun k_ => P0_0_ k_)) (by repeat (first | (with_reducible first | exact HK.out | apply Kept.alloc | apply Kept.drewN | apply Kept.drew) | exact HK.out)) hb); have n2_ := am_ (below_step bl_ hb); have n3_ := am_ (hbox); have n4_ := am_ ((by rw [hg]; exact (by first | exact HK.out.1 | exact (show Kept w _ (fun k_ => P0_0_ k_) from by repeat (first | (with_reducible first | exact HK.out | apply Kept.alloc | apply Kept.drewN | apply Kept.drew) | exact HK.out)).1) : w.heap.size ≤ gb1001)); have n5_ := am_ ((by rw [hg]; exact (below_size bl_) : w0.heap.size ≤ gb1001)); clear HO0_0; clear HK; clear HB; have HO0_0 := n0_; have HK := n1_; have HB := n2_; have BK1001 := n3_; have GW1001 := n4_; have GE1001 := n5_; clear n0_ n1_ n2_ n3_ n4_ n5_; clear hb hbox hg; have hcz6_0 := bc2_0 BK1001; have hcz6_1 := bc2_1 BK1001; have hfz6_0 := bf_ BK1001 0; have hfz6_1 := bf_ BK1001 1) | ((with_reducible refine gate_callee (f := 70) rfl ?_); refine goesL_ (some 8) rfl rfl Try.func70 (by kernel_rfl) rfl #[.slice Ao4 l0_0.length co4, .int .i64 a1] rfl ag_ ?_; (with_reducible refine (laws_markByteS.calls k (fun k_ => some k_ = (.slice Ao4 l0_0.length co4 : Value).ownBlock) (.slice Ao4 l0_0.length co4) l0_0 a1 t1002 t1003 w0 _ ?side1 ?side2 A3.out).mono ?_); (case side1 => repeat (first | (with_reducible first | exact HB.out | apply below_alloc | apply pw_below_drewN | apply below_drew1 | refine below_set ?_ GE1001.out) | exact HB.out)); (case side2 => exact Kd.R_tight rfl HO0_0.out); rintro e w7 ⟨rfl, hy0, hb, hkp⟩; refine ⟨_, rfl, ?_⟩; have n0_ := am_ (Kd.R_reok rfl hy0 (fun k_ e_ => HO0_0.out.1 k_ e_)); have n1_ := am_ (blk_kept (vk_ BK1001) hkp (fun hs_ => (fun e_ => (Kd.R_ne HO0_0.out BK1001.out (by decide)) e_) hs_)); have n2_ := am_ (Kept.then_ (S := (fun k_ => P0_0_ k_)) (by repeat (first | (with_reducible first | exact HK.out | apply Kept.alloc | apply Kept.drewN | apply Kept.drew | refine Kept.setCell ?_ (.inr GW1001.out) _) | exact HK.out)) hkp (fun k_ hs_ => (fun e_ => (HO0_0.out.1 k_ e_.symm)) hs_)); have n3_ := am_ (hb); clear HO0_0; clear BK1001; clear HK; clear HB; have HO0_0 := n0_; have BK1001 := n1_; have HK := n2_; have HB := n3_; clear n0_ n1_ n2_ n3_; (try clear hb); (try clear hkp); (try clear hy0)))
 go_ret
 exact ⟨rf_, by (with_reducible repeat (first | apply Kd.R_alloc | apply Kd.R_drewN | apply Kd.R_drew)); exact HO0_0.out, bg_, by repeat (first | (with_reducible first | exact HK.out | apply Kept.alloc | apply Kept.drewN | apply Kept.drew | refine Kept.setCell ?_ (.inr GW1001.out) _) | exact HK.out)⟩

/-! ### laws_heldByteS: function 71 -/
def laws_heldByteS.l0 : Nat → List Int → Int → Int → Option (Int)
 | 0, _, _, _ => none
 | k + 1, x0, x1, x5 => if x5 < (x0.length : Int) then (if 0 ≤ x5 then (if (rd x0 x5) = ((x1) % 256) then (laws_heldByteS.l0 k x0 (wrap64 (x1 + 1)) (wrap64 (x5 + 1))) else (some (-1))) else (none)) else (some x1)
def laws_heldByteS.f (k : Nat) (l0 : List Int) (a1 : Int) : Option (Int) := laws_heldByteS.l0 k l0 a1 0
theorem laws_heldByteS.mono_l : ∀ k, (∀ y0 y1 y2, LeO (laws_heldByteS.l0 k y0 y1 y2) (laws_heldByteS.l0 (k + 1) y0 y1 y2))
 | 0 => fun _ _ _ r h => by simp [laws_heldByteS.l0] at h
 | k + 1 => by
  have ih0 := laws_heldByteS.mono_l k
  ·intro y0 y1 y2
   unfold laws_heldByteS.l0
   repeat' first
   | with_reducible first | exact ih0 _ _ _ | exact LeO.refl _ | exact LeO.none _ | refine LeO.ite ?_ ?_ | refine LeO.bind ?_ (fun _ => ?_)
   | exact ih0 _ _ _
   | exact LeO.none _
   | refine LeO.ite ?_ ?_
   | refine LeO.bind ?_ (fun _ => ?_)
theorem laws_heldByteS.mono : ∀ a0 a1 k, LeO (laws_heldByteS.f k a0 a1) (laws_heldByteS.f (k + 1) a0 a1) := by
 intro a0 a1 k
 have ih0 := laws_heldByteS.mono_l k
 unfold laws_heldByteS.f
 repeat' first
   | with_reducible first | exact ih0 _ _ _ | exact LeO.refl _ | exact LeO.none _ | refine LeO.ite ?_ ?_ | refine LeO.bind ?_ (fun _ => ?_)
   | exact ih0 _ _ _
   | exact LeO.none _
   | refine LeO.ite ?_ ?_
   | refine LeO.bind ?_ (fun _ => ?_)
set_option maxHeartbeats 8000000 in
set_option maxRecDepth 100000 in
theorem laws_heldByteS.calls (k : Nat) (A0 : Option Addr) (c0 : Nat) (l0 : List Int) (a1 : Int) (r : Int) (w : World) (hr0 : Kd.C (Kd.int .u8) w A0 l0.length l0) (hc0 : l0.length ≤ c0) (h : laws_heldByteS.f k l0 a1 = some r) :
  Calls Try.prog 71 #[.slice A0 l0.length c0, .int .i64 a1] w fun e w' => e = .returned (.int .i64 r) ∧ Drawn0 w w' := by
 have HR0 := am_ hr0
 have HC0 := am_ hc0
 clear hr0 hc0
 have H : (laws_heldByteS.l0 k l0 a1 0) = some r := h
 clear h
 have H' := am_ H
 clear H
 go_enter Try.func71, Try.ntmps71
 go_wp2
 go_loopg [1, 5] k (fun kq v1 v5 w' => ∃ (x1_1 : Int) (x5_1 : Int), v1 = .int .i64 x1_1 ∧ v5 = .int .i64 x5_1 ∧ Aside0 (laws_heldByteS.l0 kq l0 x1_1 x5_1 = some r) ∧ Aside0 (kq ≤ k) ∧ Drawn0 w w')
 case atStart => exact ⟨(a1), (0), rs_, rs_, H', ⟨Nat.le_refl _⟩, by repeat (first | exact Drawn0.refl _ | apply Drawn0.step)⟩
 case round =>
  clear H'
  try clear p2
  obtain ⟨x1_1, x5_1, rfl, rfl, HA, HK1, ⟨m1, rfl⟩⟩ := hrel
  cases gk with
  | zero => exact absurd HA.out (by simp [laws_heldByteS.l0])
  | succ k1 =>
   have H := HA.out
   clear HA
   simp only [laws_heldByteS.l0] at H
   by_cases c3 : x5_1 < (l0.length : Int)
   ·rw [if_pos c3] at H
    have c3b0 : decide (x5_1 < (l0.length : Int)) = true := decide_eq_true c3
    clear c3
    by_cases c4 : 0 ≤ x5_1
    ·rw [if_pos c4] at H
     have c4b0 : decide (0 ≤ x5_1) = true := decide_eq_true c4
     clear c4
     by_cases c5 : (rd l0 x5_1) = ((x1_1) % 256)
     ·rw [if_pos c5] at H
      have c5b0 : ((rd l0 x5_1) == ((x1_1) % 256)) = true := beq_iff_eq.mpr c5
      have c5b1 : ((rd l0 x5_1) != ((x1_1) % 256)) = false := bne_eq_false_iff_eq.mpr c5
      clear c5
      have H' := am_ H
      clear H
      have p1001 : 0 ≤ (x5_1 : Int) := od_
      have q1001 : x5_1 < (l0.length : Int) := od_
      obtain ⟨ad1001, e1001, hx1001_0⟩ := Kd.at_int HR0.out x5_1 p1001 q1001
      cases e1001
      replace p1001 := eq_true p1001
      replace q1001 := eq_true q1001
      go_wp2
      go_roundg k1
      case measure => have := HK1.out; omega
      case rel => exact ⟨(wrap64 (x1_1 + 1)), (wrap64 (x5_1 + 1)), rs_, rs_, H', ⟨by have := HK1.out; omega⟩, by repeat (first | exact Drawn0.refl _ | apply Drawn0.step)⟩
     ·rw [if_neg c5] at H
      have c5b0 : ((rd l0 x5_1) == ((x1_1) % 256)) = false := beq_eq_false_iff_ne.mpr c5
      have c5b1 : ((rd l0 x5_1) != ((x1_1) % 256)) = true := bne_iff_ne.mpr c5
      obtain rfl := Option.some.inj H
      have p1001 : 0 ≤ (x5_1 : Int) := od_
      have q1001 : x5_1 < (l0.length : Int) := od_
      obtain ⟨ad1001, e1001, hx1001_0⟩ := Kd.at_int HR0.out x5_1 p1001 q1001
      cases e1001
      replace p1001 := eq_true p1001
      replace q1001 := eq_true q1001
      go_wp2
      go_ret
      exact ⟨by first | rfl | (simp; done) | (simp [*]; done), by repeat (first | exact Drawn0.refl _ | apply Drawn0.step)⟩
    ·rw [if_neg c4] at H
     exact absurd H (by simp)
   ·rw [if_neg c3] at H
    have c3b0 : decide (x5_1 < (l0.length : Int)) = false := decide_eq_false c3
    clear c3
    obtain rfl := Option.some.inj H
    go_wp2
    go_ret
    exact ⟨by first | rfl | (simp; done) | (simp [*]; done), by repeat (first | exact Drawn0.refl _ | apply Drawn0.step)⟩

/-! ### laws_heldBits: function 23 -/
def laws_heldBits.f (k : Nat) (l0_0 : List Int) (a0_1 : Int) (a1 : Int) : Option (Int) := (laws_heldByteS.f k l0_0 a1).bind fun t1002 => (if t1002 < 0 then (some (-1)) else (some t1002))
theorem laws_heldBits.mono : ∀ a0 a1 a2 k, LeO (laws_heldBits.f k a0 a1 a2) (laws_heldBits.f (k + 1) a0 a1 a2) := by
 intro a0 a1 a2 k
 unfold laws_heldBits.f
 repeat' first
   | with_reducible first | exact laws_heldByteS.mono _ _ _ | exact LeO.refl _ | exact LeO.none _ | refine LeO.ite ?_ ?_ | refine LeO.bind ?_ (fun _ => ?_)
   | exact laws_heldByteS.mono _ _ _
   | exact LeO.none _
   | refine LeO.ite ?_ ?_
   | refine LeO.bind ?_ (fun _ => ?_)
set_option maxHeartbeats 8000000 in
set_option maxRecDepth 100000 in
theorem laws_heldBits.calls (k : Nat) (A0_0 : Option Addr) (c0_0 : Nat) (l0_0 : List Int) (a0_1 : Int) (a1 : Int) (r : Int) (w : World) (hr0_0 : Kd.C (Kd.int .u8) w A0_0 l0_0.length l0_0) (hc0_0 : l0_0.length ≤ c0_0) (h : laws_heldBits.f k l0_0 a0_1 a1 = some r) :
  Calls Try.prog 23 #[.agg #[.slice A0_0 l0_0.length c0_0, .int .i64 a0_1], .int .i64 a1] w fun e w' => e = .returned (.int .i64 r) ∧ Below w.heap.size w w' := by
 have hu28 := Try.underlying28
 have HR0_0 := am_ hr0_0
 have HC0_0 := am_ hc0_0
 clear hr0_0 hc0_0
 have HB := am_ (Below.refl w.heap.size w)
 have H : ((laws_heldByteS.f k l0_0 a1).bind fun t1002 => (if t1002 < 0 then (some (-1)) else (some t1002))) = some r := h
 clear h
 replace H := Option.bind_eq_some_iff.mp H
 obtain ⟨t1002, A30, H⟩ := H
 replace H : (if t1002 < 0 then (some (-1)) else (some t1002)) = some r := H
 have A3 := am_ A30
 clear A30
 by_cases c4 : t1002 < 0
 ·rw [if_pos c4] at H
  have c4b0 : decide (t1002 < 0) = true := decide_eq_true c4
  clear c4
  obtain rfl := Option.some.inj H
  go_enter Try.func23, Try.ntmps23
  go_wp2_with (first | ((with_reducible refine gate_dst (N := 2) rfl ?_); refine box_event ?hg (N := 2) ?hd (cs := #[.slice A0_0 l0_0.length c0_0, .int .i64 a0_1]) (t := 28) ?hr ?_; (case hd => rfl); (case hg => rfl); (case hr => first | (go_simp; done) | (go_simp; rfl)); intro gb1001 hg w5 hbox hb; have n0_ := am_ (below_step bl_ hb); have n1_ := am_ (hbox); have n2_ := am_ (gs_ hg : w.heap.size ≤ gb1001); have n3_ := n2_; clear HB; have HB := n0_; have BK1001 := n1_; have GW1001 := n2_; have GE1001 := n3_; clear n0_ n1_ n2_ n3_; clear hb hbox hg; have hcz6_0 := bc2_0 BK1001; have hcz6_1 := bc2_1 BK1001; have hfz6_0 := bf_ BK1001 0; have hfz6_1 := bf_ BK1001 1) | ((with_reducible refine gate_callee (f := 71) rfl ?_); refine goesL_ (some 8) rfl rfl Try.func71 (by kernel_rfl) rfl #[.slice A0_0 l0_0.length c0_0, .int .i64 a1] rfl ag_ ?_; (with_reducible refine (laws_heldByteS.calls k _ _ l0_0 a1 t1002 _ ?side1 ?side2 A3.out).mono ?_); (case side1 => exact cc_ (Kd.C_below HR0_0.out HB.out)); (case side2 => exact HC0_0.out); rintro e w' ⟨rfl, ⟨nd, rfl⟩⟩; refine ⟨_, rfl, ?_⟩))
  go_ret
  exact ⟨rf_, bg_⟩
 ·rw [if_neg c4] at H
  have c4b0 : decide (t1002 < 0) = false := decide_eq_false c4
  clear c4
  obtain rfl := Option.some.inj H
  go_enter Try.func23, Try.ntmps23
  go_wp2_with (first | ((with_reducible refine gate_dst (N := 2) rfl ?_); refine box_event ?hg (N := 2) ?hd (cs := #[.slice A0_0 l0_0.length c0_0, .int .i64 a0_1]) (t := 28) ?hr ?_; (case hd => rfl); (case hg => rfl); (case hr => first | (go_simp; done) | (go_simp; rfl)); intro gb1001 hg w7 hbox hb; have n0_ := am_ (below_step bl_ hb); have n1_ := am_ (hbox); have n2_ := am_ (gs_ hg : w.heap.size ≤ gb1001); have n3_ := n2_; clear HB; have HB := n0_; have BK1001 := n1_; have GW1001 := n2_; have GE1001 := n3_; clear n0_ n1_ n2_ n3_; clear hb hbox hg; have hcz8_0 := bc2_0 BK1001; have hcz8_1 := bc2_1 BK1001; have hfz8_0 := bf_ BK1001 0; have hfz8_1 := bf_ BK1001 1) | ((with_reducible refine gate_callee (f := 71) rfl ?_); refine goesL_ (some 8) rfl rfl Try.func71 (by kernel_rfl) rfl #[.slice A0_0 l0_0.length c0_0, .int .i64 a1] rfl ag_ ?_; (with_reducible refine (laws_heldByteS.calls k _ _ l0_0 a1 t1002 _ ?side1 ?side2 A3.out).mono ?_); (case side1 => exact cc_ (Kd.C_below HR0_0.out HB.out)); (case side2 => exact HC0_0.out); rintro e w' ⟨rfl, ⟨nd, rfl⟩⟩; refine ⟨_, rfl, ?_⟩))
  go_ret
  exact ⟨rf_, bg_⟩

end Go.Proofs.Ytjapdjkckhcelaa.Pr
