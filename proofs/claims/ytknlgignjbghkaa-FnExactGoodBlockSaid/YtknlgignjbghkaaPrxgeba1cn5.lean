/- Functions of the given program as plain Lean functions, and that the machine's calls come to them; written by a program of this session; no condition but those that each theorem states. -/
import Derived.Test.YtknlgignjbghkaaPrx0
import Derived.Test.YtknlgignjbghkaaPrxgeba1cn1
import Derived.Test.YtknlgignjbghkaaPrxgeba1cn2
import Derived.Test.YtknlgignjbghkaaPrxgeba1cn3
import Derived.Test.YtknlgignjbghkaaPrxg5da37n2
import Derived.Test.YtknlgignjbghkaaPrxg61164n3
import Derived.Test.YtknlgignjbghkaaPrxgeba1cn4
namespace Go.Proofs.Ytknlgignjbghkaa.Pr
open Go.RowKit Go.Proofs.YtknlgignjbghkaaW.PrintWords Go.Proofs.YtknlgignjbghkaaW.PrintLast Go.Proofs.YtknlgignjbghkaaW.PrintMore
attribute [local go_sem] max2_int min2_int max_two min_two max_three min_three max_four min_four   -- for this text's walks alone
set_option linter.unusedVariables false
set_option linter.unusedSimpArgs false

/-! ### laws_eqStone: function 106 -/
def laws_eqStone.f (k : Nat) (l0_0 : List (S108)) (a0_1 : Int) (a0_2 : Int) (l1_0 : List (S108)) (a1_1 : Int) (a1_2 : Int) : Option (Bool) := (laws_eqLabelS.f k l0_0 l1_0).bind fun t1003 => (if t1003 = true then (if a0_1 = a1_1 then (if a0_2 = a1_2 then (some true) else (some false)) else (some false)) else (some false))
theorem laws_eqStone.mono : ∀ a0 a1 a2 a3 a4 a5 k, LeO (laws_eqStone.f k a0 a1 a2 a3 a4 a5) (laws_eqStone.f (k + 1) a0 a1 a2 a3 a4 a5) := by
 intro a0 a1 a2 a3 a4 a5 k
 unfold laws_eqStone.f
 repeat' first
   | with_reducible first | exact laws_eqLabelS.mono _ _ _ | exact LeO.refl _ | exact LeO.none _ | refine LeO.ite ?_ ?_ | refine LeO.bind ?_ (fun _ => ?_)
   | exact laws_eqLabelS.mono _ _ _
   | exact LeO.none _
   | refine LeO.ite ?_ ?_
   | refine LeO.bind ?_ (fun _ => ?_)
set_option maxHeartbeats 8000000 in
set_option maxRecDepth 100000 in
theorem laws_eqStone.calls (k : Nat) (A0_0 : Option Addr) (c0_0 : Nat) (l0_0 : List (S108)) (a0_1 : Int) (a0_2 : Int) (A1_0 : Option Addr) (c1_0 : Nat) (l1_0 : List (S108)) (a1_1 : Int) (a1_2 : Int) (r : Bool) (w : World) (hr0_0 : Kd.C k108 w A0_0 l0_0.length l0_0) (hc0_0 : l0_0.length ≤ c0_0) (hr1_0 : Kd.C k108 w A1_0 l1_0.length l1_0) (hc1_0 : l1_0.length ≤ c1_0) (h : laws_eqStone.f k l0_0 a0_1 a0_2 l1_0 a1_1 a1_2 = some r) :
  Calls Try.prog 106 #[.agg #[.slice A0_0 l0_0.length c0_0, .int .i64 a0_1, .int .i64 a0_2], .agg #[.slice A1_0 l1_0.length c1_0, .int .i64 a1_1, .int .i64 a1_2]] w fun e w' => e = .returned (.bool r) ∧ Below w.heap.size w w' := by
 have hu87 := Try.underlying87
 have HR0_0 := am_ hr0_0
 have HC0_0 := am_ hc0_0
 clear hr0_0 hc0_0
 have HR1_0 := am_ hr1_0
 have HC1_0 := am_ hc1_0
 clear hr1_0 hc1_0
 have HB := am_ (Below.refl w.heap.size w)
 have H : ((laws_eqLabelS.f k l0_0 l1_0).bind fun t1003 => (if t1003 = true then (if a0_1 = a1_1 then (if a0_2 = a1_2 then (some true) else (some false)) else (some false)) else (some false))) = some r := h
 clear h
 replace H := Option.bind_eq_some_iff.mp H
 obtain ⟨t1003, A30, H⟩ := H
 replace H : (if t1003 = true then (if a0_1 = a1_1 then (if a0_2 = a1_2 then (some true) else (some false)) else (some false)) else (some false)) = some r := H
 have A3 := am_ A30
 clear A30
 by_cases c4 : t1003 = true
 ·subst c4
  have H1 : (if a0_1 = a1_1 then (if a0_2 = a1_2 then (some true) else (some false)) else (some false)) = some r := by rw [if_pos rfl] at H; exact H
  clear H
  have H := H1
  clear H1
  by_cases c5 : a0_1 = a1_1
  ·rw [if_pos c5] at H
   have c5b0 : (a0_1 == a1_1) = true := beq_iff_eq.mpr c5
   have c5b1 : (a0_1 != a1_1) = false := bne_eq_false_iff_eq.mpr c5
   clear c5
   by_cases c6 : a0_2 = a1_2
   ·rw [if_pos c6] at H
    have c6b0 : (a0_2 == a1_2) = true := beq_iff_eq.mpr c6
    have c6b1 : (a0_2 != a1_2) = false := bne_eq_false_iff_eq.mpr c6
    clear c6
    obtain rfl := Option.some.inj H
    go_enter Try.func106, Try.ntmps106
    go_wp2_with (first | ((with_reducible refine gate_dst (N := 2) rfl ?_); refine bx_ 2 #[.slice A0_0 l0_0.length c0_0, .int .i64 a0_1, .int .i64 a0_2] 87 ?_; intro gb1001 hg w7 hbox hb; have BK1001 := am_ (hbox); have GW1001 := am_ (gs_ hg : w.heap.size ≤ gb1001); replace HB := am_ (below_step bl_ hb); have GE1001 := GW1001; clear hb hbox hg) | ((with_reducible refine gate_dst (N := 3) rfl ?_); refine bx_ 3 #[.slice A1_0 l1_0.length c1_0, .int .i64 a1_1, .int .i64 a1_2] 87 ?_; intro gb1002 hg w8 hbox hb; have BK1002 := am_ (hbox); have GW1002 := am_ (gg_ hg : w.heap.size ≤ gb1002); have NB1001_1002 := am_ ((by rw [hg]; exact Nat.ne_of_lt (blk_lt (g := gb1001) (o := .cells #[.slice A0_0 l0_0.length c0_0, .int .i64 a0_1, .int .i64 a0_2] 87 (0, 0)) (vk_ BK1001)) : gb1001 ≠ gb1002)); have NB1002_1001 := am_ ((by rw [hg]; exact Nat.ne_of_gt (blk_lt (g := gb1001) (o := .cells #[.slice A0_0 l0_0.length c0_0, .int .i64 a0_1, .int .i64 a0_2] 87 (0, 0)) (vk_ BK1001)) : gb1002 ≠ gb1001)); replace BK1001 := am_ (blk_below (g := gb1001) (vk_ BK1001) hb); replace HB := am_ (below_step bg_ hb); have GE1002 := GW1002; clear hb hbox hg; have hnb9 := NB1001_1002.out; have hnc9 := NB1002_1001.out; have hcz10_0 := bc3_0 BK1001; have hcz10_1 := bc3_1 BK1001; have hcz10_2 := bc3_2 BK1001; have hfz10_0 := bf_ BK1001 0; have hfz10_1 := bf_ BK1001 1; have hfz10_2 := bf_ BK1001 2; have hcz11_0 := bc3_0 BK1002; have hcz11_1 := bc3_1 BK1002; have hcz11_2 := bc3_2 BK1002; have hfz11_0 := bf_ BK1002 0; have hfz11_1 := bf_ BK1002 1; have hfz11_2 := bf_ BK1002 2) | ((with_reducible refine gate_callee (f := 26) rfl ?_); refine goesL_ (some 9) rfl rfl Try.func26 (by kernel_rfl) rfl #[.slice A0_0 l0_0.length c0_0, .slice A1_0 l1_0.length c1_0] rfl ag_ ?_; (with_reducible refine (laws_eqLabelS.calls k _ _ l0_0 _ _ l1_0 true _ ?side1 ?side2 ?side3 ?side4 A3.out).mono ?_); (case side1 => exact cc_ (Kd.C_below HR0_0.out HB.out)); (case side2 => exact HC0_0.out); (case side3 => exact cc_ (Kd.C_below HR1_0.out HB.out)); (case side4 => exact HC1_0.out); rintro e w12 ⟨rfl, hb⟩; refine ⟨_, rfl, ?_⟩; replace BK1001 := am_ (blk_below (g := gb1001) (vk_ BK1001) hb); replace BK1002 := am_ (blk_below (g := gb1002) (vk_ BK1002) hb); replace HB := am_ (below_step bg_ hb); (try clear hb); (try clear hb2); (try clear hk); (try clear hi); have hcz13_0 := bc3_0 BK1001; have hcz13_1 := bc3_1 BK1001; have hcz13_2 := bc3_2 BK1001; have hfz13_0 := bf_ BK1001 0; have hfz13_1 := bf_ BK1001 1; have hfz13_2 := bf_ BK1001 2; have hcz14_0 := bc3_0 BK1002; have hcz14_1 := bc3_1 BK1002; have hcz14_2 := bc3_2 BK1002; have hfz14_0 := bf_ BK1002 0; have hfz14_1 := bf_ BK1002 1; have hfz14_2 := bf_ BK1002 2))
    go_ret
    exact ⟨rf_, bg_⟩
   ·rw [if_neg c6] at H
    have c6b0 : (a0_2 == a1_2) = false := beq_eq_false_iff_ne.mpr c6
    have c6b1 : (a0_2 != a1_2) = true := bne_iff_ne.mpr c6
    obtain rfl := Option.some.inj H
    go_enter Try.func106, Try.ntmps106
    go_wp2_with (first | ((with_reducible refine gate_dst (N := 2) rfl ?_); refine bx_ 2 #[.slice A0_0 l0_0.length c0_0, .int .i64 a0_1, .int .i64 a0_2] 87 ?_; intro gb1001 hg w15 hbox hb; have BK1001 := am_ (hbox); have GW1001 := am_ (gs_ hg : w.heap.size ≤ gb1001); replace HB := am_ (below_step bl_ hb); have GE1001 := GW1001; clear hb hbox hg) | ((with_reducible refine gate_dst (N := 3) rfl ?_); refine bx_ 3 #[.slice A1_0 l1_0.length c1_0, .int .i64 a1_1, .int .i64 a1_2] 87 ?_; intro gb1002 hg w16 hbox hb; have BK1002 := am_ (hbox); have GW1002 := am_ (gg_ hg : w.heap.size ≤ gb1002); have NB1001_1002 := am_ ((by rw [hg]; exact Nat.ne_of_lt (blk_lt (g := gb1001) (o := .cells #[.slice A0_0 l0_0.length c0_0, .int .i64 a0_1, .int .i64 a0_2] 87 (0, 0)) (vk_ BK1001)) : gb1001 ≠ gb1002)); have NB1002_1001 := am_ ((by rw [hg]; exact Nat.ne_of_gt (blk_lt (g := gb1001) (o := .cells #[.slice A0_0 l0_0.length c0_0, .int .i64 a0_1, .int .i64 a0_2] 87 (0, 0)) (vk_ BK1001)) : gb1002 ≠ gb1001)); replace BK1001 := am_ (blk_below (g := gb1001) (vk_ BK1001) hb); replace HB := am_ (below_step bg_ hb); have GE1002 := GW1002; clear hb hbox hg; have hnb17 := NB1001_1002.out; have hnc17 := NB1002_1001.out; have hcz18_0 := bc3_0 BK1001; have hcz18_1 := bc3_1 BK1001; have hcz18_2 := bc3_2 BK1001; have hfz18_0 := bf_ BK1001 0; have hfz18_1 := bf_ BK1001 1; have hfz18_2 := bf_ BK1001 2; have hcz19_0 := bc3_0 BK1002; have hcz19_1 := bc3_1 BK1002; have hcz19_2 := bc3_2 BK1002; have hfz19_0 := bf_ BK1002 0; have hfz19_1 := bf_ BK1002 1; have hfz19_2 := bf_ BK1002 2) | ((with_reducible refine gate_callee (f := 26) rfl ?_); refine goesL_ (some 9) rfl rfl Try.func26 (by kernel_rfl) rfl #[.slice A0_0 l0_0.length c0_0, .slice A1_0 l1_0.length c1_0] rfl ag_ ?_; (with_reducible refine (laws_eqLabelS.calls k _ _ l0_0 _ _ l1_0 true _ ?side1 ?side2 ?side3 ?side4 A3.out).mono ?_); (case side1 => exact cc_ (Kd.C_below HR0_0.out HB.out)); (case side2 => exact HC0_0.out); (case side3 => exact cc_ (Kd.C_below HR1_0.out HB.out)); (case side4 => exact HC1_0.out); rintro e w20 ⟨rfl, hb⟩; refine ⟨_, rfl, ?_⟩; replace BK1001 := am_ (blk_below (g := gb1001) (vk_ BK1001) hb); replace BK1002 := am_ (blk_below (g := gb1002) (vk_ BK1002) hb); replace HB := am_ (below_step bg_ hb); (try clear hb); (try clear hb2); (try clear hk); (try clear hi); have hcz21_0 := bc3_0 BK1001; have hcz21_1 := bc3_1 BK1001; have hcz21_2 := bc3_2 BK1001; have hfz21_0 := bf_ BK1001 0; have hfz21_1 := bf_ BK1001 1; have hfz21_2 := bf_ BK1001 2; have hcz22_0 := bc3_0 BK1002; have hcz22_1 := bc3_1 BK1002; have hcz22_2 := bc3_2 BK1002; have hfz22_0 := bf_ BK1002 0; have hfz22_1 := bf_ BK1002 1; have hfz22_2 := bf_ BK1002 2))
    go_ret
    exact ⟨rf_, bg_⟩
  ·rw [if_neg c5] at H
   have c5b0 : (a0_1 == a1_1) = false := beq_eq_false_iff_ne.mpr c5
   have c5b1 : (a0_1 != a1_1) = true := bne_iff_ne.mpr c5
   obtain rfl := Option.some.inj H
   go_enter Try.func106, Try.ntmps106
   go_wp2_with (first | ((with_reducible refine gate_dst (N := 2) rfl ?_); refine bx_ 2 #[.slice A0_0 l0_0.length c0_0, .int .i64 a0_1, .int .i64 a0_2] 87 ?_; intro gb1001 hg w23 hbox hb; have BK1001 := am_ (hbox); have GW1001 := am_ (gs_ hg : w.heap.size ≤ gb1001); replace HB := am_ (below_step bl_ hb); have GE1001 := GW1001; clear hb hbox hg) | ((with_reducible refine gate_dst (N := 3) rfl ?_); refine bx_ 3 #[.slice A1_0 l1_0.length c1_0, .int .i64 a1_1, .int .i64 a1_2] 87 ?_; intro gb1002 hg w24 hbox hb; have BK1002 := am_ (hbox); have GW1002 := am_ (gg_ hg : w.heap.size ≤ gb1002); have NB1001_1002 := am_ ((by rw [hg]; exact Nat.ne_of_lt (blk_lt (g := gb1001) (o := .cells #[.slice A0_0 l0_0.length c0_0, .int .i64 a0_1, .int .i64 a0_2] 87 (0, 0)) (vk_ BK1001)) : gb1001 ≠ gb1002)); have NB1002_1001 := am_ ((by rw [hg]; exact Nat.ne_of_gt (blk_lt (g := gb1001) (o := .cells #[.slice A0_0 l0_0.length c0_0, .int .i64 a0_1, .int .i64 a0_2] 87 (0, 0)) (vk_ BK1001)) : gb1002 ≠ gb1001)); replace BK1001 := am_ (blk_below (g := gb1001) (vk_ BK1001) hb); replace HB := am_ (below_step bg_ hb); have GE1002 := GW1002; clear hb hbox hg; have hnb25 := NB1001_1002.out; have hnc25 := NB1002_1001.out; have hcz26_0 := bc3_0 BK1001; have hcz26_1 := bc3_1 BK1001; have hcz26_2 := bc3_2 BK1001; have hfz26_0 := bf_ BK1001 0; have hfz26_1 := bf_ BK1001 1; have hfz26_2 := bf_ BK1001 2; have hcz27_0 := bc3_0 BK1002; have hcz27_1 := bc3_1 BK1002; have hcz27_2 := bc3_2 BK1002; have hfz27_0 := bf_ BK1002 0; have hfz27_1 := bf_ BK1002 1; have hfz27_2 := bf_ BK1002 2) | ((with_reducible refine gate_callee (f := 26) rfl ?_); refine goesL_ (some 9) rfl rfl Try.func26 (by kernel_rfl) rfl #[.slice A0_0 l0_0.length c0_0, .slice A1_0 l1_0.length c1_0] rfl ag_ ?_; (with_reducible refine (laws_eqLabelS.calls k _ _ l0_0 _ _ l1_0 true _ ?side1 ?side2 ?side3 ?side4 A3.out).mono ?_); (case side1 => exact cc_ (Kd.C_below HR0_0.out HB.out)); (case side2 => exact HC0_0.out); (case side3 => exact cc_ (Kd.C_below HR1_0.out HB.out)); (case side4 => exact HC1_0.out); rintro e w28 ⟨rfl, hb⟩; refine ⟨_, rfl, ?_⟩; replace BK1001 := am_ (blk_below (g := gb1001) (vk_ BK1001) hb); replace BK1002 := am_ (blk_below (g := gb1002) (vk_ BK1002) hb); replace HB := am_ (below_step bg_ hb); (try clear hb); (try clear hb2); (try clear hk); (try clear hi); have hcz29_0 := bc3_0 BK1001; have hcz29_1 := bc3_1 BK1001; have hcz29_2 := bc3_2 BK1001; have hfz29_0 := bf_ BK1001 0; have hfz29_1 := bf_ BK1001 1; have hfz29_2 := bf_ BK1001 2; have hcz30_0 := bc3_0 BK1002; have hcz30_1 := bc3_1 BK1002; have hcz30_2 := bc3_2 BK1002; have hfz30_0 := bf_ BK1002 0; have hfz30_1 := bf_ BK1002 1; have hfz30_2 := bf_ BK1002 2))
   go_ret
   exact ⟨rf_, bg_⟩
 ·replace c4 := Bool.eq_false_iff.mpr c4
  subst c4
  have H1 : (some false) = some r := by rw [if_neg (show ¬ (false = true) by decide)] at H; exact H
  clear H
  have H := H1
  clear H1
  obtain rfl := Option.some.inj H
  go_enter Try.func106, Try.ntmps106
  go_wp2_with (first | ((with_reducible refine gate_dst (N := 2) rfl ?_); refine bx_ 2 #[.slice A0_0 l0_0.length c0_0, .int .i64 a0_1, .int .i64 a0_2] 87 ?_; intro gb1001 hg w31 hbox hb; have BK1001 := am_ (hbox); have GW1001 := am_ (gs_ hg : w.heap.size ≤ gb1001); replace HB := am_ (below_step bl_ hb); have GE1001 := GW1001; clear hb hbox hg) | ((with_reducible refine gate_dst (N := 3) rfl ?_); refine bx_ 3 #[.slice A1_0 l1_0.length c1_0, .int .i64 a1_1, .int .i64 a1_2] 87 ?_; intro gb1002 hg w32 hbox hb; have BK1002 := am_ (hbox); have GW1002 := am_ (gg_ hg : w.heap.size ≤ gb1002); have NB1001_1002 := am_ ((by rw [hg]; exact Nat.ne_of_lt (blk_lt (g := gb1001) (o := .cells #[.slice A0_0 l0_0.length c0_0, .int .i64 a0_1, .int .i64 a0_2] 87 (0, 0)) (vk_ BK1001)) : gb1001 ≠ gb1002)); have NB1002_1001 := am_ ((by rw [hg]; exact Nat.ne_of_gt (blk_lt (g := gb1001) (o := .cells #[.slice A0_0 l0_0.length c0_0, .int .i64 a0_1, .int .i64 a0_2] 87 (0, 0)) (vk_ BK1001)) : gb1002 ≠ gb1001)); replace BK1001 := am_ (blk_below (g := gb1001) (vk_ BK1001) hb); replace HB := am_ (below_step bg_ hb); have GE1002 := GW1002; clear hb hbox hg; have hnb33 := NB1001_1002.out; have hnc33 := NB1002_1001.out; have hcz34_0 := bc3_0 BK1001; have hcz34_1 := bc3_1 BK1001; have hcz34_2 := bc3_2 BK1001; have hfz34_0 := bf_ BK1001 0; have hfz34_1 := bf_ BK1001 1; have hfz34_2 := bf_ BK1001 2; have hcz35_0 := bc3_0 BK1002; have hcz35_1 := bc3_1 BK1002; have hcz35_2 := bc3_2 BK1002; have hfz35_0 := bf_ BK1002 0; have hfz35_1 := bf_ BK1002 1; have hfz35_2 := bf_ BK1002 2) | ((with_reducible refine gate_callee (f := 26) rfl ?_); refine goesL_ (some 9) rfl rfl Try.func26 (by kernel_rfl) rfl #[.slice A0_0 l0_0.length c0_0, .slice A1_0 l1_0.length c1_0] rfl ag_ ?_; (with_reducible refine (laws_eqLabelS.calls k _ _ l0_0 _ _ l1_0 false _ ?side1 ?side2 ?side3 ?side4 A3.out).mono ?_); (case side1 => exact cc_ (Kd.C_below HR0_0.out HB.out)); (case side2 => exact HC0_0.out); (case side3 => exact cc_ (Kd.C_below HR1_0.out HB.out)); (case side4 => exact HC1_0.out); rintro e w36 ⟨rfl, hb⟩; refine ⟨_, rfl, ?_⟩; replace BK1001 := am_ (blk_below (g := gb1001) (vk_ BK1001) hb); replace BK1002 := am_ (blk_below (g := gb1002) (vk_ BK1002) hb); replace HB := am_ (below_step bg_ hb); (try clear hb); (try clear hb2); (try clear hk); (try clear hi)))
  go_ret
  exact ⟨rf_, bg_⟩

/-! ### laws_eqStoneS: function 57 -/
def laws_eqStoneS.l0 : Nat → List (S87) → List (S87) → Int → Option (Bool)
 | 0, _, _, _ => none
 | k + 1, x0, x1, x5 => if x5 < (x0.length : Int) then (if 0 ≤ x5 then (if x5 < (x1.length : Int) then ((laws_eqStone.f k ((rd_T87 x0 x5).f0) ((rd_T87 x0 x5).f1) ((rd_T87 x0 x5).f2) ((rd_T87 x1 x5).f0) ((rd_T87 x1 x5).f1) ((rd_T87 x1 x5).f2)).bind fun t1003 => (if t1003 = true then (laws_eqStoneS.l0 k x0 x1 (wrap64 (x5 + 1))) else (some false))) else (none)) else (none)) else (some true)
def laws_eqStoneS.f (k : Nat) (l0 : List (S87)) (l1 : List (S87)) : Option (Bool) := if (l0.length : Int) = (l1.length : Int) then (laws_eqStoneS.l0 k l0 l1 0) else (some false)
theorem laws_eqStoneS.mono_l : ∀ k, (∀ y0 y1 y2, LeO (laws_eqStoneS.l0 k y0 y1 y2) (laws_eqStoneS.l0 (k + 1) y0 y1 y2))
 | 0 => fun _ _ _ r h => by simp [laws_eqStoneS.l0] at h
 | k + 1 => by
  have ih0 := laws_eqStoneS.mono_l k
  ·intro y0 y1 y2
   unfold laws_eqStoneS.l0
   repeat' first
   | with_reducible first | exact ih0 _ _ _ | exact laws_eqStone.mono _ _ _ _ _ _ _ | exact LeO.refl _ | exact LeO.none _ | refine LeO.ite ?_ ?_ | refine LeO.bind ?_ (fun _ => ?_)
   | exact ih0 _ _ _
   | exact laws_eqStone.mono _ _ _ _ _ _ _
   | exact LeO.none _
   | refine LeO.ite ?_ ?_
   | refine LeO.bind ?_ (fun _ => ?_)
theorem laws_eqStoneS.mono : ∀ a0 a1 k, LeO (laws_eqStoneS.f k a0 a1) (laws_eqStoneS.f (k + 1) a0 a1) := by
 intro a0 a1 k
 have ih0 := laws_eqStoneS.mono_l k
 unfold laws_eqStoneS.f
 repeat' first
   | with_reducible first | exact ih0 _ _ _ | exact laws_eqStone.mono _ _ _ _ _ _ _ | exact LeO.refl _ | exact LeO.none _ | refine LeO.ite ?_ ?_ | refine LeO.bind ?_ (fun _ => ?_)
   | exact ih0 _ _ _
   | exact laws_eqStone.mono _ _ _ _ _ _ _
   | exact LeO.none _
   | refine LeO.ite ?_ ?_
   | refine LeO.bind ?_ (fun _ => ?_)
def laws_eqStoneS.T6 : Bool × List (List Nat × List Nat) := (true, [([], []), ([], []), ([0, 1], [0, 1]), ([2], [2]), ([], []), ([], []), ([4, 5], [4, 5]), ([6], [6]), ([3, 7], [3, 7]), ([8], [8])])
def laws_eqStoneS.B6 : List Nat := [0, 0, 3, 7, 0, 0, 48, 112, 255, 511]
theorem laws_eqStoneS.tab6 : rtab .any (opsOf Try.f57 6) = laws_eqStoneS.T6 := by kernel_rfl
theorem laws_eqStoneS.bits6 : waitsOk laws_eqStoneS.T6.2 laws_eqStoneS.B6 = true := by kernel_rfl
set_option maxHeartbeats 8000000 in
set_option maxRecDepth 100000 in
theorem laws_eqStoneS.calls (k : Nat) (A0 : Option Addr) (c0 : Nat) (l0 : List (S87)) (A1 : Option Addr) (c1 : Nat) (l1 : List (S87)) (r : Bool) (w : World) (hr0 : Kd.C k87 w A0 l0.length l0) (hc0 : l0.length ≤ c0) (hr1 : Kd.C k87 w A1 l1.length l1) (hc1 : l1.length ≤ c1) (h : laws_eqStoneS.f k l0 l1 = some r) :
  Calls Try.prog 57 #[.slice A0 l0.length c0, .slice A1 l1.length c1] w fun e w' => e = .returned (.bool r) ∧ Below w.heap.size w w' := by
 have hu87 := Try.underlying87
 have HR0 := am_ hr0
 have HC0 := am_ hc0
 clear hr0 hc0
 have HR1 := am_ hr1
 have HC1 := am_ hc1
 clear hr1 hc1
 have HB := am_ (Below.refl w.heap.size w)
 have H : (if (l0.length : Int) = (l1.length : Int) then (laws_eqStoneS.l0 k l0 l1 0) else (some false)) = some r := h
 clear h
 by_cases c3 : (l0.length : Int) = (l1.length : Int)
 ·rw [if_pos c3] at H
  have c3b0 : ((l0.length : Int) == (l1.length : Int)) = true := beq_iff_eq.mpr c3
  have c3b1 : ((l0.length : Int) != (l1.length : Int)) = false := bne_eq_false_iff_eq.mpr c3
  have c3b2 : (l0.length == l1.length) = true := by first | simpa using c3 | (simp at c3 ⊢; omega)
  clear c3
  have H' := am_ H
  clear H
  go_enter Try.func57, Try.ntmps57
  go_wp2
  go_loopg [5] k (fun kq v5 w' => ∃ (x5_1 : Int), v5 = .int .i64 x5_1 ∧ Aside0 (laws_eqStoneS.l0 kq l0 l1 x5_1 = some r) ∧ Aside0 (kq ≤ k) ∧ Aside0 (Below w.heap.size w w'))
  case atStart => exact ⟨(0), rs_, H', ⟨Nat.le_refl _⟩, ⟨bl_⟩⟩
  case round =>
   clear H'
   try clear c1
   try clear p2
   try clear c3
   try clear c3b0
   try clear c3b1
   try clear c3b2
   obtain ⟨x5_1, rfl, HA, HK1, HB⟩ := hrel
   cases gk with
   | zero => exact absurd HA.out (by simp [laws_eqStoneS.l0])
   | succ k1 =>
    have H := HA.out
    clear HA
    simp only [laws_eqStoneS.l0] at H
    by_cases c4 : x5_1 < (l0.length : Int)
    ·rw [if_pos c4] at H
     have c4b0 : decide (x5_1 < (l0.length : Int)) = true := decide_eq_true c4
     clear c4
     by_cases c5 : 0 ≤ x5_1
     ·rw [if_pos c5] at H
      have c5b0 : decide (0 ≤ x5_1) = true := decide_eq_true c5
      clear c5
      by_cases c6 : x5_1 < (l1.length : Int)
      ·rw [if_pos c6] at H
       have c6b0 : decide (x5_1 < (l1.length : Int)) = true := decide_eq_true c6
       clear c6
       replace H := Option.bind_eq_some_iff.mp H
       obtain ⟨t1003, A70, H⟩ := H
       replace H : (if t1003 = true then (laws_eqStoneS.l0 k1 l0 l1 (wrap64 (x5_1 + 1))) else (some false)) = some r := H
       have A7 := am_ A70
       clear A70
       by_cases c8 : t1003 = true
       ·subst c8
        have H1 : (laws_eqStoneS.l0 k1 l0 l1 (wrap64 (x5_1 + 1))) = some r := by rw [if_pos rfl] at H; exact H
        clear H
        have H := H1
        clear H1
        have H' := am_ H
        clear H
        try go_wp2
        have n0_ := am_ (below_drew1 HB.out)
        clear HB
        have HB := n0_
        clear n0_
        have p1001 : 0 ≤ (x5_1 : Int) := od_
        have q1001 : x5_1 < (l0.length : Int) := od_
        obtain ⟨ad1001, A1001_0, c1001_0, e1001, hx1001_0, hx1001_1, hx1001_2, hl1001_0, hi1001_0⟩ := at_T87 HR0.out x5_1 p1001 q1001
        have hw1001_2 := hx1001_2
        have hw1001_1 := hx1001_1
        have hw1001_0 := hx1001_0
        cases e1001
        replace hx1001_0 := kp_ HB hx1001_0
        replace hx1001_1 := kp_ HB hx1001_1
        replace hx1001_2 := kp_ HB hx1001_2
        have HR1001_0 := am_ hi1001_0
        have HC1001_0 := am_ hl1001_0
        clear hi1001_0 hl1001_0
        replace p1001 := eq_true p1001
        replace q1001 := eq_true q1001
        have p1002 : 0 ≤ (x5_1 : Int) := od_
        have q1002 : x5_1 < (l1.length : Int) := od_
        obtain ⟨ad1002, A1002_0, c1002_0, e1002, hx1002_0, hx1002_1, hx1002_2, hl1002_0, hi1002_0⟩ := at_T87 HR1.out x5_1 p1002 q1002
        have hw1002_2 := hx1002_2
        have hw1002_1 := hx1002_1
        have hw1002_0 := hx1002_0
        cases e1002
        replace hx1002_0 := kp_ HB hx1002_0
        replace hx1002_1 := kp_ HB hx1002_1
        replace hx1002_2 := kp_ HB hx1002_2
        have HR1002_0 := am_ hi1002_0
        have HC1002_0 := am_ hl1002_0
        clear hi1002_0 hl1002_0
        replace p1002 := eq_true p1002
        replace q1002 := eq_true q1002
        refine start_ (n := 10) (S := fun w' => w'.cell? (ad1001.add ((x5_1).toNat * 3)) = some (.slice A1001_0 ((rd_T87 l0 x5_1).f0).length c1001_0) ∧ w'.cell? ⟨(ad1001.add ((x5_1).toNat * 3)).block, (ad1001.add ((x5_1).toNat * 3)).off + 1, none⟩ = some (.int .i64 ((rd_T87 l0 x5_1).f1)) ∧ w'.cell? ⟨(ad1001.add ((x5_1).toNat * 3)).block, (ad1001.add ((x5_1).toNat * 3)).off + 2, none⟩ = some (.int .i64 ((rd_T87 l0 x5_1).f2)) ∧ w'.cell? (ad1002.add ((x5_1).toNat * 3)) = some (.slice A1002_0 ((rd_T87 l1 x5_1).f0).length c1002_0) ∧ w'.cell? ⟨(ad1002.add ((x5_1).toNat * 3)).block, (ad1002.add ((x5_1).toNat * 3)).off + 1, none⟩ = some (.int .i64 ((rd_T87 l1 x5_1).f1)) ∧ w'.cell? ⟨(ad1002.add ((x5_1).toNat * 3)).block, (ad1002.add ((x5_1).toNat * 3)).off + 2, none⟩ = some (.int .i64 ((rd_T87 l1 x5_1).f2))) (ds := []) (bz 10 0) (by kernel_rfl) rfl rfl ⟨(kp_ HB hw1001_0 :), (kp_ HB hw1001_1 :), (kp_ HB hw1001_2 :), (kp_ HB hw1002_0 :), (kp_ HB hw1002_1 :), (kp_ HB hw1002_2 :)⟩ (fun hHeld => ?_); refine with_tabW laws_eqStoneS.tab6 laws_eqStoneS.bits6 (fun HT_ HW_ => ?_)
        generalize wr.drew = w9 at HB HR1001_0 HR1002_0 hx1001_0 hx1001_1 hx1001_2 hx1002_0 hx1002_1 hx1002_2 hHeld ⊢
        refine pz_ 0 17 1 ?_
        refine pz_ 1 18 3 ?_
        refine pz_ 2 19 7 ?_
        refine pz_ 4 21 23 ?_
        refine pz_ 5 22 55 ?_
        refine pz_ 6 23 119 ?_
        refine tz_ 3 20 127 ?_
        refine tz_ 7 24 255 ?_
        refine one_ (i := 8) (N := some 25) (bz 10 511) rfl rfl (one_of HT_.out (by kernel_rfl)) (by decide) (fun K hK => ?_)
        refine goes_ Try.func106 (by kernel_rfl) rfl #[.agg #[.slice A1001_0 ((rd_T87 l0 x5_1).f0).length c1001_0, .int .i64 ((rd_T87 l0 x5_1).f1), .int .i64 ((rd_T87 l0 x5_1).f2)], .agg #[.slice A1002_0 ((rd_T87 l1 x5_1).f0).length c1002_0, .int .i64 ((rd_T87 l1 x5_1).f1), .int .i64 ((rd_T87 l1 x5_1).f2)]] (by rfl) rfl rfl ag_ ?_
        with_reducible refine (laws_eqStone.calls k1 _ _ ((rd_T87 l0 x5_1).f0) ((rd_T87 l0 x5_1).f1) ((rd_T87 l0 x5_1).f2) _ _ ((rd_T87 l1 x5_1).f0) ((rd_T87 l1 x5_1).f1) ((rd_T87 l1 x5_1).f2) true _ ?side1 ?side2 ?side3 ?side4 A7.out).mono ?_
        (case side1 => exact cc_ (Kd.C_below HR1001_0.out HB.out))
        (case side2 => exact HC1001_0.out)
        (case side3 => exact cc_ (Kd.C_below HR1002_0.out HB.out))
        (case side4 => exact HC1002_0.out)
        rintro e w10 ⟨rfl, hb⟩
        refine ⟨_, rfl, ?_⟩
        have n0_ := am_ (below_step bl_ hb)
        clear HB
        have HB := n0_
        clear n0_
        (try clear hb)
        (try clear hb2)
        (try clear hk)
        (try clear hi)
        refine hK.out _ _ ⟨(kp_ HB hw1001_0 :), (kp_ HB hw1001_1 :), (kp_ HB hw1001_2 :), (kp_ HB hw1002_0 :), (kp_ HB hw1002_1 :), (kp_ HB hw1002_2 :)⟩ (fun hHeld => ?_)
        clear hK K
        refine norm_ (a' := ?_) ?_ ?_
        rotate_left
        ·show Act.put _ (some 25) _ = _
         simp only [Act.put, List.setIfInBounds_toArray, List.set_cons_zero, List.set_cons_succ, i64_w, i32_w]
         rfl
        refine pz_ 9 26 1023 ?_
        refine done_ (done_of HT_.out (by kernel_rfl)) ?_
        try go_wp2
        go_roundg k1
        case measure => have := HK1.out; omega
        case rel => exact ⟨(wrap64 (x5_1 + 1)), rs_, H', ⟨by have := HK1.out; omega⟩, ⟨bl_⟩⟩
       ·replace c8 := Bool.eq_false_iff.mpr c8
        subst c8
        have H1 : (some false) = some r := by rw [if_neg (show ¬ (false = true) by decide)] at H; exact H
        clear H
        have H := H1
        clear H1
        obtain rfl := Option.some.inj H
        try go_wp2
        have n0_ := am_ (below_drew1 HB.out)
        clear HB
        have HB := n0_
        clear n0_
        have p1001 : 0 ≤ (x5_1 : Int) := od_
        have q1001 : x5_1 < (l0.length : Int) := od_
        obtain ⟨ad1001, A1001_0, c1001_0, e1001, hx1001_0, hx1001_1, hx1001_2, hl1001_0, hi1001_0⟩ := at_T87 HR0.out x5_1 p1001 q1001
        have hw1001_2 := hx1001_2
        have hw1001_1 := hx1001_1
        have hw1001_0 := hx1001_0
        cases e1001
        replace hx1001_0 := kp_ HB hx1001_0
        replace hx1001_1 := kp_ HB hx1001_1
        replace hx1001_2 := kp_ HB hx1001_2
        have HR1001_0 := am_ hi1001_0
        have HC1001_0 := am_ hl1001_0
        clear hi1001_0 hl1001_0
        replace p1001 := eq_true p1001
        replace q1001 := eq_true q1001
        have p1002 : 0 ≤ (x5_1 : Int) := od_
        have q1002 : x5_1 < (l1.length : Int) := od_
        obtain ⟨ad1002, A1002_0, c1002_0, e1002, hx1002_0, hx1002_1, hx1002_2, hl1002_0, hi1002_0⟩ := at_T87 HR1.out x5_1 p1002 q1002
        have hw1002_2 := hx1002_2
        have hw1002_1 := hx1002_1
        have hw1002_0 := hx1002_0
        cases e1002
        replace hx1002_0 := kp_ HB hx1002_0
        replace hx1002_1 := kp_ HB hx1002_1
        replace hx1002_2 := kp_ HB hx1002_2
        have HR1002_0 := am_ hi1002_0
        have HC1002_0 := am_ hl1002_0
        clear hi1002_0 hl1002_0
        replace p1002 := eq_true p1002
        replace q1002 := eq_true q1002
        refine start_ (n := 10) (S := fun w' => w'.cell? (ad1001.add ((x5_1).toNat * 3)) = some (.slice A1001_0 ((rd_T87 l0 x5_1).f0).length c1001_0) ∧ w'.cell? ⟨(ad1001.add ((x5_1).toNat * 3)).block, (ad1001.add ((x5_1).toNat * 3)).off + 1, none⟩ = some (.int .i64 ((rd_T87 l0 x5_1).f1)) ∧ w'.cell? ⟨(ad1001.add ((x5_1).toNat * 3)).block, (ad1001.add ((x5_1).toNat * 3)).off + 2, none⟩ = some (.int .i64 ((rd_T87 l0 x5_1).f2)) ∧ w'.cell? (ad1002.add ((x5_1).toNat * 3)) = some (.slice A1002_0 ((rd_T87 l1 x5_1).f0).length c1002_0) ∧ w'.cell? ⟨(ad1002.add ((x5_1).toNat * 3)).block, (ad1002.add ((x5_1).toNat * 3)).off + 1, none⟩ = some (.int .i64 ((rd_T87 l1 x5_1).f1)) ∧ w'.cell? ⟨(ad1002.add ((x5_1).toNat * 3)).block, (ad1002.add ((x5_1).toNat * 3)).off + 2, none⟩ = some (.int .i64 ((rd_T87 l1 x5_1).f2))) (ds := []) (bz 10 0) (by kernel_rfl) rfl rfl ⟨(kp_ HB hw1001_0 :), (kp_ HB hw1001_1 :), (kp_ HB hw1001_2 :), (kp_ HB hw1002_0 :), (kp_ HB hw1002_1 :), (kp_ HB hw1002_2 :)⟩ (fun hHeld => ?_); refine with_tabW laws_eqStoneS.tab6 laws_eqStoneS.bits6 (fun HT_ HW_ => ?_)
        generalize wr.drew = w11 at HB HR1001_0 HR1002_0 hx1001_0 hx1001_1 hx1001_2 hx1002_0 hx1002_1 hx1002_2 hHeld ⊢
        refine pz_ 0 17 1 ?_
        refine pz_ 1 18 3 ?_
        refine pz_ 2 19 7 ?_
        refine pz_ 4 21 23 ?_
        refine pz_ 5 22 55 ?_
        refine pz_ 6 23 119 ?_
        refine tz_ 3 20 127 ?_
        refine tz_ 7 24 255 ?_
        refine one_ (i := 8) (N := some 25) (bz 10 511) rfl rfl (one_of HT_.out (by kernel_rfl)) (by decide) (fun K hK => ?_)
        refine goes_ Try.func106 (by kernel_rfl) rfl #[.agg #[.slice A1001_0 ((rd_T87 l0 x5_1).f0).length c1001_0, .int .i64 ((rd_T87 l0 x5_1).f1), .int .i64 ((rd_T87 l0 x5_1).f2)], .agg #[.slice A1002_0 ((rd_T87 l1 x5_1).f0).length c1002_0, .int .i64 ((rd_T87 l1 x5_1).f1), .int .i64 ((rd_T87 l1 x5_1).f2)]] (by rfl) rfl rfl ag_ ?_
        with_reducible refine (laws_eqStone.calls k1 _ _ ((rd_T87 l0 x5_1).f0) ((rd_T87 l0 x5_1).f1) ((rd_T87 l0 x5_1).f2) _ _ ((rd_T87 l1 x5_1).f0) ((rd_T87 l1 x5_1).f1) ((rd_T87 l1 x5_1).f2) false _ ?side1 ?side2 ?side3 ?side4 A7.out).mono ?_
        (case side1 => exact cc_ (Kd.C_below HR1001_0.out HB.out))
        (case side2 => exact HC1001_0.out)
        (case side3 => exact cc_ (Kd.C_below HR1002_0.out HB.out))
        (case side4 => exact HC1002_0.out)
        rintro e w12 ⟨rfl, hb⟩
        refine ⟨_, rfl, ?_⟩
        have n0_ := am_ (below_step bl_ hb)
        clear HB
        have HB := n0_
        clear n0_
        (try clear hb)
        (try clear hb2)
        (try clear hk)
        (try clear hi)
        refine hK.out _ _ ⟨(kp_ HB hw1001_0 :), (kp_ HB hw1001_1 :), (kp_ HB hw1001_2 :), (kp_ HB hw1002_0 :), (kp_ HB hw1002_1 :), (kp_ HB hw1002_2 :)⟩ (fun hHeld => ?_)
        clear hK K
        refine norm_ (a' := ?_) ?_ ?_
        rotate_left
        ·show Act.put _ (some 25) _ = _
         simp only [Act.put, List.setIfInBounds_toArray, List.set_cons_zero, List.set_cons_succ, i64_w, i32_w]
         rfl
        refine pz_ 9 26 1023 ?_
        refine done_ (done_of HT_.out (by kernel_rfl)) ?_
        try go_wp2
        go_ret
        exact ⟨rf_, bl_⟩
      ·rw [if_neg c6] at H
       exact absurd H (by simp)
     ·rw [if_neg c5] at H
      exact absurd H (by simp)
    ·rw [if_neg c4] at H
     have c4b0 : decide (x5_1 < (l0.length : Int)) = false := decide_eq_false c4
     clear c4
     obtain rfl := Option.some.inj H
     go_wp2
     go_ret
     exact ⟨rf_, bl_⟩
 ·rw [if_neg c3] at H
  have c3b0 : ((l0.length : Int) == (l1.length : Int)) = false := beq_eq_false_iff_ne.mpr c3
  have c3b1 : ((l0.length : Int) != (l1.length : Int)) = true := bne_iff_ne.mpr c3
  have c3b2 : (l0.length == l1.length) = false := by first | simpa using c3 | (simp at c3 ⊢; omega)
  obtain rfl := Option.some.inj H
  go_enter Try.func57, Try.ntmps57
  go_wp2
  go_ret
  exact ⟨rf_, bl_⟩

/-! ### laws_eqBlock: function 12 -/
def laws_eqBlock.f (k : Nat) (a0_0 : Int) (a0_1 : Int) (a0_2 : Int) (l0_3 : List (S83)) (l0_4 : List (S87)) (a1_0 : Int) (a1_1 : Int) (a1_2 : Int) (l1_3 : List (S83)) (l1_4 : List (S87)) : Option (Bool) := if a0_0 = a1_0 then (if a0_1 = a1_1 then (if a0_2 = a1_2 then ((laws_eqSeriesS.f k l0_3 l1_3).bind fun t1003 => (if t1003 = true then ((laws_eqStoneS.f k l0_4 l1_4).bind fun t1004 => (if t1004 = true then (some true) else (some false))) else (some false))) else (some false)) else (some false)) else (some false)
theorem laws_eqBlock.mono : ∀ a0 a1 a2 a3 a4 a5 a6 a7 a8 a9 k, LeO (laws_eqBlock.f k a0 a1 a2 a3 a4 a5 a6 a7 a8 a9) (laws_eqBlock.f (k + 1) a0 a1 a2 a3 a4 a5 a6 a7 a8 a9) := by
 intro a0 a1 a2 a3 a4 a5 a6 a7 a8 a9 k
 unfold laws_eqBlock.f
 repeat' first
   | with_reducible first | exact laws_eqSeriesS.mono _ _ _ | exact laws_eqStoneS.mono _ _ _ | exact LeO.refl _ | exact LeO.none _ | refine LeO.ite ?_ ?_ | refine LeO.bind ?_ (fun _ => ?_)
   | exact laws_eqSeriesS.mono _ _ _
   | exact laws_eqStoneS.mono _ _ _
   | exact LeO.none _
   | refine LeO.ite ?_ ?_
   | refine LeO.bind ?_ (fun _ => ?_)
set_option maxHeartbeats 8000000 in
set_option maxRecDepth 100000 in
theorem laws_eqBlock.calls (k : Nat) (a0_0 : Int) (a0_1 : Int) (a0_2 : Int) (A0_3 : Option Addr) (c0_3 : Nat) (l0_3 : List (S83)) (A0_4 : Option Addr) (c0_4 : Nat) (l0_4 : List (S87)) (a1_0 : Int) (a1_1 : Int) (a1_2 : Int) (A1_3 : Option Addr) (c1_3 : Nat) (l1_3 : List (S83)) (A1_4 : Option Addr) (c1_4 : Nat) (l1_4 : List (S87)) (r : Bool) (w : World) (hr0_3 : Kd.C k83 w A0_3 l0_3.length l0_3) (hc0_3 : l0_3.length ≤ c0_3) (hr0_4 : Kd.C k87 w A0_4 l0_4.length l0_4) (hc0_4 : l0_4.length ≤ c0_4) (hr1_3 : Kd.C k83 w A1_3 l1_3.length l1_3) (hc1_3 : l1_3.length ≤ c1_3) (hr1_4 : Kd.C k87 w A1_4 l1_4.length l1_4) (hc1_4 : l1_4.length ≤ c1_4) (h : laws_eqBlock.f k a0_0 a0_1 a0_2 l0_3 l0_4 a1_0 a1_1 a1_2 l1_3 l1_4 = some r) :
  Calls Try.prog 12 #[.agg #[.int .i64 a0_0, .int .i64 a0_1, .int .i64 a0_2, .slice A0_3 l0_3.length c0_3, .slice A0_4 l0_4.length c0_4], .agg #[.int .i64 a1_0, .int .i64 a1_1, .int .i64 a1_2, .slice A1_3 l1_3.length c1_3, .slice A1_4 l1_4.length c1_4]] w fun e w' => e = .returned (.bool r) ∧ Below w.heap.size w w' := by
 have hu31 := Try.underlying31
 have HR0_3 := am_ hr0_3
 have HC0_3 := am_ hc0_3
 clear hr0_3 hc0_3
 have HR0_4 := am_ hr0_4
 have HC0_4 := am_ hc0_4
 clear hr0_4 hc0_4
 have HR1_3 := am_ hr1_3
 have HC1_3 := am_ hc1_3
 clear hr1_3 hc1_3
 have HR1_4 := am_ hr1_4
 have HC1_4 := am_ hc1_4
 clear hr1_4 hc1_4
 have HB := am_ (Below.refl w.heap.size w)
 have H : (if a0_0 = a1_0 then (if a0_1 = a1_1 then (if a0_2 = a1_2 then ((laws_eqSeriesS.f k l0_3 l1_3).bind fun t1003 => (if t1003 = true then ((laws_eqStoneS.f k l0_4 l1_4).bind fun t1004 => (if t1004 = true then (some true) else (some false))) else (some false))) else (some false)) else (some false)) else (some false)) = some r := h
 clear h
 by_cases c3 : a0_0 = a1_0
 ·rw [if_pos c3] at H
  have c3b0 : (a0_0 == a1_0) = true := beq_iff_eq.mpr c3
  have c3b1 : (a0_0 != a1_0) = false := bne_eq_false_iff_eq.mpr c3
  clear c3
  by_cases c4 : a0_1 = a1_1
  ·rw [if_pos c4] at H
   have c4b0 : (a0_1 == a1_1) = true := beq_iff_eq.mpr c4
   have c4b1 : (a0_1 != a1_1) = false := bne_eq_false_iff_eq.mpr c4
   clear c4
   by_cases c5 : a0_2 = a1_2
   ·rw [if_pos c5] at H
    have c5b0 : (a0_2 == a1_2) = true := beq_iff_eq.mpr c5
    have c5b1 : (a0_2 != a1_2) = false := bne_eq_false_iff_eq.mpr c5
    clear c5
    replace H := Option.bind_eq_some_iff.mp H
    obtain ⟨t1003, A60, H⟩ := H
    replace H : (if t1003 = true then ((laws_eqStoneS.f k l0_4 l1_4).bind fun t1004 => (if t1004 = true then (some true) else (some false))) else (some false)) = some r := H
    have A6 := am_ A60
    clear A60
    by_cases c7 : t1003 = true
    ·subst c7
     have H1 : ((laws_eqStoneS.f k l0_4 l1_4).bind fun t1004 => (if t1004 = true then (some true) else (some false))) = some r := by rw [if_pos rfl] at H; exact H
     clear H
     have H := H1
     clear H1
     replace H := Option.bind_eq_some_iff.mp H
     obtain ⟨t1004, A80, H⟩ := H
     replace H : (if t1004 = true then (some true) else (some false)) = some r := H
     have A8 := am_ A80
     clear A80
     by_cases c9 : t1004 = true
     ·subst c9
      have H1 : (some true) = some r := by rw [if_pos rfl] at H; exact H
      clear H
      have H := H1
      clear H1
      obtain rfl := Option.some.inj H
      go_enter Try.func12, Try.ntmps12
      go_wp2_with (first | ((with_reducible refine gate_dst (N := 2) rfl ?_); refine bx_ 2 #[.int .i64 a0_0, .int .i64 a0_1, .int .i64 a0_2, .slice A0_3 l0_3.length c0_3, .slice A0_4 l0_4.length c0_4] 31 ?_; intro gb1001 hg w10 hbox hb; have BK1001 := am_ (hbox); have GW1001 := am_ (gs_ hg : w.heap.size ≤ gb1001); replace HB := am_ (below_step bl_ hb); have GE1001 := GW1001; clear hb hbox hg) | ((with_reducible refine gate_dst (N := 3) rfl ?_); refine bx_ 3 #[.int .i64 a1_0, .int .i64 a1_1, .int .i64 a1_2, .slice A1_3 l1_3.length c1_3, .slice A1_4 l1_4.length c1_4] 31 ?_; intro gb1002 hg w11 hbox hb; have BK1002 := am_ (hbox); have GW1002 := am_ (gg_ hg : w.heap.size ≤ gb1002); have NB1001_1002 := am_ ((by rw [hg]; exact Nat.ne_of_lt (blk_lt (g := gb1001) (o := .cells #[.int .i64 a0_0, .int .i64 a0_1, .int .i64 a0_2, .slice A0_3 l0_3.length c0_3, .slice A0_4 l0_4.length c0_4] 31 (0, 0)) (vk_ BK1001)) : gb1001 ≠ gb1002)); have NB1002_1001 := am_ ((by rw [hg]; exact Nat.ne_of_gt (blk_lt (g := gb1001) (o := .cells #[.int .i64 a0_0, .int .i64 a0_1, .int .i64 a0_2, .slice A0_3 l0_3.length c0_3, .slice A0_4 l0_4.length c0_4] 31 (0, 0)) (vk_ BK1001)) : gb1002 ≠ gb1001)); replace BK1001 := am_ (blk_below (g := gb1001) (vk_ BK1001) hb); replace HB := am_ (below_step bg_ hb); have GE1002 := GW1002; clear hb hbox hg; have hnb12 := NB1001_1002.out; have hnc12 := NB1002_1001.out; have hcz13_0 := bc5_0 BK1001; have hcz13_1 := bc5_1 BK1001; have hcz13_2 := bc5_2 BK1001; have hcz13_3 := bc5_3 BK1001; have hcz13_4 := bc5_4 BK1001; have hfz13_0 := bf_ BK1001 0; have hfz13_1 := bf_ BK1001 1; have hfz13_2 := bf_ BK1001 2; have hfz13_3 := bf_ BK1001 3; have hfz13_4 := bf_ BK1001 4; have hcz14_0 := bc5_0 BK1002; have hcz14_1 := bc5_1 BK1002; have hcz14_2 := bc5_2 BK1002; have hcz14_3 := bc5_3 BK1002; have hcz14_4 := bc5_4 BK1002; have hfz14_0 := bf_ BK1002 0; have hfz14_1 := bf_ BK1002 1; have hfz14_2 := bf_ BK1002 2; have hfz14_3 := bf_ BK1002 3; have hfz14_4 := bf_ BK1002 4) | ((with_reducible refine gate_callee (f := 17) rfl ?_); refine goesL_ (some 24) rfl rfl Try.func17 (by kernel_rfl) rfl #[.slice A0_3 l0_3.length c0_3, .slice A1_3 l1_3.length c1_3] rfl ag_ ?_; (with_reducible refine (laws_eqSeriesS.calls k _ _ l0_3 _ _ l1_3 true _ ?side1 ?side2 ?side3 ?side4 A6.out).mono ?_); (case side1 => exact cc_ (Kd.C_below HR0_3.out HB.out)); (case side2 => exact HC0_3.out); (case side3 => exact cc_ (Kd.C_below HR1_3.out HB.out)); (case side4 => exact HC1_3.out); rintro e w15 ⟨rfl, hb⟩; refine ⟨_, rfl, ?_⟩; replace BK1001 := am_ (blk_below (g := gb1001) (vk_ BK1001) hb); replace BK1002 := am_ (blk_below (g := gb1002) (vk_ BK1002) hb); replace HB := am_ (below_step bg_ hb); (try clear hb); (try clear hb2); (try clear hk); (try clear hi); have hcz16_0 := bc5_0 BK1001; have hcz16_1 := bc5_1 BK1001; have hcz16_2 := bc5_2 BK1001; have hcz16_3 := bc5_3 BK1001; have hcz16_4 := bc5_4 BK1001; have hfz16_0 := bf_ BK1001 0; have hfz16_1 := bf_ BK1001 1; have hfz16_2 := bf_ BK1001 2; have hfz16_3 := bf_ BK1001 3; have hfz16_4 := bf_ BK1001 4; have hcz17_0 := bc5_0 BK1002; have hcz17_1 := bc5_1 BK1002; have hcz17_2 := bc5_2 BK1002; have hcz17_3 := bc5_3 BK1002; have hcz17_4 := bc5_4 BK1002; have hfz17_0 := bf_ BK1002 0; have hfz17_1 := bf_ BK1002 1; have hfz17_2 := bf_ BK1002 2; have hfz17_3 := bf_ BK1002 3; have hfz17_4 := bf_ BK1002 4) | ((with_reducible refine gate_callee (f := 57) rfl ?_); refine goesL_ (some 30) rfl rfl Try.func57 (by kernel_rfl) rfl #[.slice A0_4 l0_4.length c0_4, .slice A1_4 l1_4.length c1_4] rfl ag_ ?_; (with_reducible refine (laws_eqStoneS.calls k _ _ l0_4 _ _ l1_4 true _ ?side1 ?side2 ?side3 ?side4 A8.out).mono ?_); (case side1 => exact cc_ (Kd.C_below HR0_4.out HB.out)); (case side2 => exact HC0_4.out); (case side3 => exact cc_ (Kd.C_below HR1_4.out HB.out)); (case side4 => exact HC1_4.out); rintro e w18 ⟨rfl, hb⟩; refine ⟨_, rfl, ?_⟩; replace BK1001 := am_ (blk_below (g := gb1001) (vk_ BK1001) hb); replace BK1002 := am_ (blk_below (g := gb1002) (vk_ BK1002) hb); replace HB := am_ (below_step bg_ hb); (try clear hb); (try clear hb2); (try clear hk); (try clear hi)))
      go_ret
      exact ⟨rf_, bg_⟩
     ·replace c9 := Bool.eq_false_iff.mpr c9
      subst c9
      have H1 : (some false) = some r := by rw [if_neg (show ¬ (false = true) by decide)] at H; exact H
      clear H
      have H := H1
      clear H1
      obtain rfl := Option.some.inj H
      go_enter Try.func12, Try.ntmps12
      go_wp2_with (first | ((with_reducible refine gate_dst (N := 2) rfl ?_); refine bx_ 2 #[.int .i64 a0_0, .int .i64 a0_1, .int .i64 a0_2, .slice A0_3 l0_3.length c0_3, .slice A0_4 l0_4.length c0_4] 31 ?_; intro gb1001 hg w19 hbox hb; have BK1001 := am_ (hbox); have GW1001 := am_ (gs_ hg : w.heap.size ≤ gb1001); replace HB := am_ (below_step bl_ hb); have GE1001 := GW1001; clear hb hbox hg) | ((with_reducible refine gate_dst (N := 3) rfl ?_); refine bx_ 3 #[.int .i64 a1_0, .int .i64 a1_1, .int .i64 a1_2, .slice A1_3 l1_3.length c1_3, .slice A1_4 l1_4.length c1_4] 31 ?_; intro gb1002 hg w20 hbox hb; have BK1002 := am_ (hbox); have GW1002 := am_ (gg_ hg : w.heap.size ≤ gb1002); have NB1001_1002 := am_ ((by rw [hg]; exact Nat.ne_of_lt (blk_lt (g := gb1001) (o := .cells #[.int .i64 a0_0, .int .i64 a0_1, .int .i64 a0_2, .slice A0_3 l0_3.length c0_3, .slice A0_4 l0_4.length c0_4] 31 (0, 0)) (vk_ BK1001)) : gb1001 ≠ gb1002)); have NB1002_1001 := am_ ((by rw [hg]; exact Nat.ne_of_gt (blk_lt (g := gb1001) (o := .cells #[.int .i64 a0_0, .int .i64 a0_1, .int .i64 a0_2, .slice A0_3 l0_3.length c0_3, .slice A0_4 l0_4.length c0_4] 31 (0, 0)) (vk_ BK1001)) : gb1002 ≠ gb1001)); replace BK1001 := am_ (blk_below (g := gb1001) (vk_ BK1001) hb); replace HB := am_ (below_step bg_ hb); have GE1002 := GW1002; clear hb hbox hg; have hnb21 := NB1001_1002.out; have hnc21 := NB1002_1001.out; have hcz22_0 := bc5_0 BK1001; have hcz22_1 := bc5_1 BK1001; have hcz22_2 := bc5_2 BK1001; have hcz22_3 := bc5_3 BK1001; have hcz22_4 := bc5_4 BK1001; have hfz22_0 := bf_ BK1001 0; have hfz22_1 := bf_ BK1001 1; have hfz22_2 := bf_ BK1001 2; have hfz22_3 := bf_ BK1001 3; have hfz22_4 := bf_ BK1001 4; have hcz23_0 := bc5_0 BK1002; have hcz23_1 := bc5_1 BK1002; have hcz23_2 := bc5_2 BK1002; have hcz23_3 := bc5_3 BK1002; have hcz23_4 := bc5_4 BK1002; have hfz23_0 := bf_ BK1002 0; have hfz23_1 := bf_ BK1002 1; have hfz23_2 := bf_ BK1002 2; have hfz23_3 := bf_ BK1002 3; have hfz23_4 := bf_ BK1002 4) | ((with_reducible refine gate_callee (f := 17) rfl ?_); refine goesL_ (some 24) rfl rfl Try.func17 (by kernel_rfl) rfl #[.slice A0_3 l0_3.length c0_3, .slice A1_3 l1_3.length c1_3] rfl ag_ ?_; (with_reducible refine (laws_eqSeriesS.calls k _ _ l0_3 _ _ l1_3 true _ ?side1 ?side2 ?side3 ?side4 A6.out).mono ?_); (case side1 => exact cc_ (Kd.C_below HR0_3.out HB.out)); (case side2 => exact HC0_3.out); (case side3 => exact cc_ (Kd.C_below HR1_3.out HB.out)); (case side4 => exact HC1_3.out); rintro e w24 ⟨rfl, hb⟩; refine ⟨_, rfl, ?_⟩; replace BK1001 := am_ (blk_below (g := gb1001) (vk_ BK1001) hb); replace BK1002 := am_ (blk_below (g := gb1002) (vk_ BK1002) hb); replace HB := am_ (below_step bg_ hb); (try clear hb); (try clear hb2); (try clear hk); (try clear hi); have hcz25_0 := bc5_0 BK1001; have hcz25_1 := bc5_1 BK1001; have hcz25_2 := bc5_2 BK1001; have hcz25_3 := bc5_3 BK1001; have hcz25_4 := bc5_4 BK1001; have hfz25_0 := bf_ BK1001 0; have hfz25_1 := bf_ BK1001 1; have hfz25_2 := bf_ BK1001 2; have hfz25_3 := bf_ BK1001 3; have hfz25_4 := bf_ BK1001 4; have hcz26_0 := bc5_0 BK1002; have hcz26_1 := bc5_1 BK1002; have hcz26_2 := bc5_2 BK1002; have hcz26_3 := bc5_3 BK1002; have hcz26_4 := bc5_4 BK1002; have hfz26_0 := bf_ BK1002 0; have hfz26_1 := bf_ BK1002 1; have hfz26_2 := bf_ BK1002 2; have hfz26_3 := bf_ BK1002 3; have hfz26_4 := bf_ BK1002 4) | ((with_reducible refine gate_callee (f := 57) rfl ?_); refine goesL_ (some 30) rfl rfl Try.func57 (by kernel_rfl) rfl #[.slice A0_4 l0_4.length c0_4, .slice A1_4 l1_4.length c1_4] rfl ag_ ?_; (with_reducible refine (laws_eqStoneS.calls k _ _ l0_4 _ _ l1_4 false _ ?side1 ?side2 ?side3 ?side4 A8.out).mono ?_); (case side1 => exact cc_ (Kd.C_below HR0_4.out HB.out)); (case side2 => exact HC0_4.out); (case side3 => exact cc_ (Kd.C_below HR1_4.out HB.out)); (case side4 => exact HC1_4.out); rintro e w27 ⟨rfl, hb⟩; refine ⟨_, rfl, ?_⟩; replace BK1001 := am_ (blk_below (g := gb1001) (vk_ BK1001) hb); replace BK1002 := am_ (blk_below (g := gb1002) (vk_ BK1002) hb); replace HB := am_ (below_step bg_ hb); (try clear hb); (try clear hb2); (try clear hk); (try clear hi)))
      go_ret
      exact ⟨rf_, bg_⟩
    ·replace c7 := Bool.eq_false_iff.mpr c7
     subst c7
     have H1 : (some false) = some r := by rw [if_neg (show ¬ (false = true) by decide)] at H; exact H
     clear H
     have H := H1
     clear H1
     obtain rfl := Option.some.inj H
     go_enter Try.func12, Try.ntmps12
     go_wp2_with (first | ((with_reducible refine gate_dst (N := 2) rfl ?_); refine bx_ 2 #[.int .i64 a0_0, .int .i64 a0_1, .int .i64 a0_2, .slice A0_3 l0_3.length c0_3, .slice A0_4 l0_4.length c0_4] 31 ?_; intro gb1001 hg w28 hbox hb; have BK1001 := am_ (hbox); have GW1001 := am_ (gs_ hg : w.heap.size ≤ gb1001); replace HB := am_ (below_step bl_ hb); have GE1001 := GW1001; clear hb hbox hg) | ((with_reducible refine gate_dst (N := 3) rfl ?_); refine bx_ 3 #[.int .i64 a1_0, .int .i64 a1_1, .int .i64 a1_2, .slice A1_3 l1_3.length c1_3, .slice A1_4 l1_4.length c1_4] 31 ?_; intro gb1002 hg w29 hbox hb; have BK1002 := am_ (hbox); have GW1002 := am_ (gg_ hg : w.heap.size ≤ gb1002); have NB1001_1002 := am_ ((by rw [hg]; exact Nat.ne_of_lt (blk_lt (g := gb1001) (o := .cells #[.int .i64 a0_0, .int .i64 a0_1, .int .i64 a0_2, .slice A0_3 l0_3.length c0_3, .slice A0_4 l0_4.length c0_4] 31 (0, 0)) (vk_ BK1001)) : gb1001 ≠ gb1002)); have NB1002_1001 := am_ ((by rw [hg]; exact Nat.ne_of_gt (blk_lt (g := gb1001) (o := .cells #[.int .i64 a0_0, .int .i64 a0_1, .int .i64 a0_2, .slice A0_3 l0_3.length c0_3, .slice A0_4 l0_4.length c0_4] 31 (0, 0)) (vk_ BK1001)) : gb1002 ≠ gb1001)); replace BK1001 := am_ (blk_below (g := gb1001) (vk_ BK1001) hb); replace HB := am_ (below_step bg_ hb); have GE1002 := GW1002; clear hb hbox hg; have hnb30 := NB1001_1002.out; have hnc30 := NB1002_1001.out; have hcz31_0 := bc5_0 BK1001; have hcz31_1 := bc5_1 BK1001; have hcz31_2 := bc5_2 BK1001; have hcz31_3 := bc5_3 BK1001; have hcz31_4 := bc5_4 BK1001; have hfz31_0 := bf_ BK1001 0; have hfz31_1 := bf_ BK1001 1; have hfz31_2 := bf_ BK1001 2; have hfz31_3 := bf_ BK1001 3; have hfz31_4 := bf_ BK1001 4; have hcz32_0 := bc5_0 BK1002; have hcz32_1 := bc5_1 BK1002; have hcz32_2 := bc5_2 BK1002; have hcz32_3 := bc5_3 BK1002; have hcz32_4 := bc5_4 BK1002; have hfz32_0 := bf_ BK1002 0; have hfz32_1 := bf_ BK1002 1; have hfz32_2 := bf_ BK1002 2; have hfz32_3 := bf_ BK1002 3; have hfz32_4 := bf_ BK1002 4) | ((with_reducible refine gate_callee (f := 17) rfl ?_); refine goesL_ (some 24) rfl rfl Try.func17 (by kernel_rfl) rfl #[.slice A0_3 l0_3.length c0_3, .slice A1_3 l1_3.length c1_3] rfl ag_ ?_; (with_reducible refine (laws_eqSeriesS.calls k _ _ l0_3 _ _ l1_3 false _ ?side1 ?side2 ?side3 ?side4 A6.out).mono ?_); (case side1 => exact cc_ (Kd.C_below HR0_3.out HB.out)); (case side2 => exact HC0_3.out); (case side3 => exact cc_ (Kd.C_below HR1_3.out HB.out)); (case side4 => exact HC1_3.out); rintro e w33 ⟨rfl, hb⟩; refine ⟨_, rfl, ?_⟩; replace BK1001 := am_ (blk_below (g := gb1001) (vk_ BK1001) hb); replace BK1002 := am_ (blk_below (g := gb1002) (vk_ BK1002) hb); replace HB := am_ (below_step bg_ hb); (try clear hb); (try clear hb2); (try clear hk); (try clear hi)))
     go_ret
     exact ⟨rf_, bg_⟩
   ·rw [if_neg c5] at H
    have c5b0 : (a0_2 == a1_2) = false := beq_eq_false_iff_ne.mpr c5
    have c5b1 : (a0_2 != a1_2) = true := bne_iff_ne.mpr c5
    obtain rfl := Option.some.inj H
    go_enter Try.func12, Try.ntmps12
    go_wp2_with (first | ((with_reducible refine gate_dst (N := 2) rfl ?_); refine bx_ 2 #[.int .i64 a0_0, .int .i64 a0_1, .int .i64 a0_2, .slice A0_3 l0_3.length c0_3, .slice A0_4 l0_4.length c0_4] 31 ?_; intro gb1001 hg w34 hbox hb; have BK1001 := am_ (hbox); have GW1001 := am_ (gs_ hg : w.heap.size ≤ gb1001); replace HB := am_ (below_step bl_ hb); have GE1001 := GW1001; clear hb hbox hg) | ((with_reducible refine gate_dst (N := 3) rfl ?_); refine bx_ 3 #[.int .i64 a1_0, .int .i64 a1_1, .int .i64 a1_2, .slice A1_3 l1_3.length c1_3, .slice A1_4 l1_4.length c1_4] 31 ?_; intro gb1002 hg w35 hbox hb; have BK1002 := am_ (hbox); have GW1002 := am_ (gg_ hg : w.heap.size ≤ gb1002); have NB1001_1002 := am_ ((by rw [hg]; exact Nat.ne_of_lt (blk_lt (g := gb1001) (o := .cells #[.int .i64 a0_0, .int .i64 a0_1, .int .i64 a0_2, .slice A0_3 l0_3.length c0_3, .slice A0_4 l0_4.length c0_4] 31 (0, 0)) (vk_ BK1001)) : gb1001 ≠ gb1002)); have NB1002_1001 := am_ ((by rw [hg]; exact Nat.ne_of_gt (blk_lt (g := gb1001) (o := .cells #[.int .i64 a0_0, .int .i64 a0_1, .int .i64 a0_2, .slice A0_3 l0_3.length c0_3, .slice A0_4 l0_4.length c0_4] 31 (0, 0)) (vk_ BK1001)) : gb1002 ≠ gb1001)); replace BK1001 := am_ (blk_below (g := gb1001) (vk_ BK1001) hb); replace HB := am_ (below_step bg_ hb); have GE1002 := GW1002; clear hb hbox hg; have hnb36 := NB1001_1002.out; have hnc36 := NB1002_1001.out; have hcz37_0 := bc5_0 BK1001; have hcz37_1 := bc5_1 BK1001; have hcz37_2 := bc5_2 BK1001; have hcz37_3 := bc5_3 BK1001; have hcz37_4 := bc5_4 BK1001; have hfz37_0 := bf_ BK1001 0; have hfz37_1 := bf_ BK1001 1; have hfz37_2 := bf_ BK1001 2; have hfz37_3 := bf_ BK1001 3; have hfz37_4 := bf_ BK1001 4; have hcz38_0 := bc5_0 BK1002; have hcz38_1 := bc5_1 BK1002; have hcz38_2 := bc5_2 BK1002; have hcz38_3 := bc5_3 BK1002; have hcz38_4 := bc5_4 BK1002; have hfz38_0 := bf_ BK1002 0; have hfz38_1 := bf_ BK1002 1; have hfz38_2 := bf_ BK1002 2; have hfz38_3 := bf_ BK1002 3; have hfz38_4 := bf_ BK1002 4))
    go_ret
    exact ⟨rf_, bg_⟩
  ·rw [if_neg c4] at H
   have c4b0 : (a0_1 == a1_1) = false := beq_eq_false_iff_ne.mpr c4
   have c4b1 : (a0_1 != a1_1) = true := bne_iff_ne.mpr c4
   obtain rfl := Option.some.inj H
   go_enter Try.func12, Try.ntmps12
   go_wp2_with (first | ((with_reducible refine gate_dst (N := 2) rfl ?_); refine bx_ 2 #[.int .i64 a0_0, .int .i64 a0_1, .int .i64 a0_2, .slice A0_3 l0_3.length c0_3, .slice A0_4 l0_4.length c0_4] 31 ?_; intro gb1001 hg w39 hbox hb; have BK1001 := am_ (hbox); have GW1001 := am_ (gs_ hg : w.heap.size ≤ gb1001); replace HB := am_ (below_step bl_ hb); have GE1001 := GW1001; clear hb hbox hg) | ((with_reducible refine gate_dst (N := 3) rfl ?_); refine bx_ 3 #[.int .i64 a1_0, .int .i64 a1_1, .int .i64 a1_2, .slice A1_3 l1_3.length c1_3, .slice A1_4 l1_4.length c1_4] 31 ?_; intro gb1002 hg w40 hbox hb; have BK1002 := am_ (hbox); have GW1002 := am_ (gg_ hg : w.heap.size ≤ gb1002); have NB1001_1002 := am_ ((by rw [hg]; exact Nat.ne_of_lt (blk_lt (g := gb1001) (o := .cells #[.int .i64 a0_0, .int .i64 a0_1, .int .i64 a0_2, .slice A0_3 l0_3.length c0_3, .slice A0_4 l0_4.length c0_4] 31 (0, 0)) (vk_ BK1001)) : gb1001 ≠ gb1002)); have NB1002_1001 := am_ ((by rw [hg]; exact Nat.ne_of_gt (blk_lt (g := gb1001) (o := .cells #[.int .i64 a0_0, .int .i64 a0_1, .int .i64 a0_2, .slice A0_3 l0_3.length c0_3, .slice A0_4 l0_4.length c0_4] 31 (0, 0)) (vk_ BK1001)) : gb1002 ≠ gb1001)); replace BK1001 := am_ (blk_below (g := gb1001) (vk_ BK1001) hb); replace HB := am_ (below_step bg_ hb); have GE1002 := GW1002; clear hb hbox hg; have hnb41 := NB1001_1002.out; have hnc41 := NB1002_1001.out; have hcz42_0 := bc5_0 BK1001; have hcz42_1 := bc5_1 BK1001; have hcz42_2 := bc5_2 BK1001; have hcz42_3 := bc5_3 BK1001; have hcz42_4 := bc5_4 BK1001; have hfz42_0 := bf_ BK1001 0; have hfz42_1 := bf_ BK1001 1; have hfz42_2 := bf_ BK1001 2; have hfz42_3 := bf_ BK1001 3; have hfz42_4 := bf_ BK1001 4; have hcz43_0 := bc5_0 BK1002; have hcz43_1 := bc5_1 BK1002; have hcz43_2 := bc5_2 BK1002; have hcz43_3 := bc5_3 BK1002; have hcz43_4 := bc5_4 BK1002; have hfz43_0 := bf_ BK1002 0; have hfz43_1 := bf_ BK1002 1; have hfz43_2 := bf_ BK1002 2; have hfz43_3 := bf_ BK1002 3; have hfz43_4 := bf_ BK1002 4))
   go_ret
   exact ⟨rf_, bg_⟩
 ·rw [if_neg c3] at H
  have c3b0 : (a0_0 == a1_0) = false := beq_eq_false_iff_ne.mpr c3
  have c3b1 : (a0_0 != a1_0) = true := bne_iff_ne.mpr c3
  obtain rfl := Option.some.inj H
  go_enter Try.func12, Try.ntmps12
  go_wp2_with (first | ((with_reducible refine gate_dst (N := 2) rfl ?_); refine bx_ 2 #[.int .i64 a0_0, .int .i64 a0_1, .int .i64 a0_2, .slice A0_3 l0_3.length c0_3, .slice A0_4 l0_4.length c0_4] 31 ?_; intro gb1001 hg w44 hbox hb; have BK1001 := am_ (hbox); have GW1001 := am_ (gs_ hg : w.heap.size ≤ gb1001); replace HB := am_ (below_step bl_ hb); have GE1001 := GW1001; clear hb hbox hg) | ((with_reducible refine gate_dst (N := 3) rfl ?_); refine bx_ 3 #[.int .i64 a1_0, .int .i64 a1_1, .int .i64 a1_2, .slice A1_3 l1_3.length c1_3, .slice A1_4 l1_4.length c1_4] 31 ?_; intro gb1002 hg w45 hbox hb; have BK1002 := am_ (hbox); have GW1002 := am_ (gg_ hg : w.heap.size ≤ gb1002); have NB1001_1002 := am_ ((by rw [hg]; exact Nat.ne_of_lt (blk_lt (g := gb1001) (o := .cells #[.int .i64 a0_0, .int .i64 a0_1, .int .i64 a0_2, .slice A0_3 l0_3.length c0_3, .slice A0_4 l0_4.length c0_4] 31 (0, 0)) (vk_ BK1001)) : gb1001 ≠ gb1002)); have NB1002_1001 := am_ ((by rw [hg]; exact Nat.ne_of_gt (blk_lt (g := gb1001) (o := .cells #[.int .i64 a0_0, .int .i64 a0_1, .int .i64 a0_2, .slice A0_3 l0_3.length c0_3, .slice A0_4 l0_4.length c0_4] 31 (0, 0)) (vk_ BK1001)) : gb1002 ≠ gb1001)); replace BK1001 := am_ (blk_below (g := gb1001) (vk_ BK1001) hb); replace HB := am_ (below_step bg_ hb); have GE1002 := GW1002; clear hb hbox hg; have hnb46 := NB1001_1002.out; have hnc46 := NB1002_1001.out; have hcz47_0 := bc5_0 BK1001; have hcz47_1 := bc5_1 BK1001; have hcz47_2 := bc5_2 BK1001; have hcz47_3 := bc5_3 BK1001; have hcz47_4 := bc5_4 BK1001; have hfz47_0 := bf_ BK1001 0; have hfz47_1 := bf_ BK1001 1; have hfz47_2 := bf_ BK1001 2; have hfz47_3 := bf_ BK1001 3; have hfz47_4 := bf_ BK1001 4; have hcz48_0 := bc5_0 BK1002; have hcz48_1 := bc5_1 BK1002; have hcz48_2 := bc5_2 BK1002; have hcz48_3 := bc5_3 BK1002; have hcz48_4 := bc5_4 BK1002; have hfz48_0 := bf_ BK1002 0; have hfz48_1 := bf_ BK1002 1; have hfz48_2 := bf_ BK1002 2; have hfz48_3 := bf_ BK1002 3; have hfz48_4 := bf_ BK1002 4))
  go_ret
  exact ⟨rf_, bg_⟩

/-! ### laws_FnExactGoodBlock: function 3 -/
def laws_FnExactGoodBlock.f (k : Nat) (a0_0 : Int) (a0_1 : Int) (a0_2 : Int) (l0_3 : List (S98)) (l0_4 : List (S130)) : Option (Bool) := (laws_szBlock.f k a0_0 a0_1 a0_2 l0_3 l0_4 1048576).bind fun t1002 => (if t1002 < 0 then (some true) else ((laws_toBlock.f k a0_0 a0_1 a0_2 l0_3 l0_4).bind fun bt1003 => ((spec_GoodBlock.f k bt1003.1 bt1003.2.1 bt1003.2.2.1 bt1003.2.2.2.1 bt1003.2.2.2.2).bind fun t1012 => ((laws_toBlock.f k a0_0 a0_1 a0_2 l0_3 l0_4).bind fun bt1013 => ((impl_GoodBlock.f k bt1013.1 bt1013.2.1 bt1013.2.2.1 bt1013.2.2.2.1 bt1013.2.2.2.2).bind fun t1023 => (if (t1023 != t1012) = true then (none) else ((laws_toBlock.f k a0_0 a0_1 a0_2 l0_3 l0_4).bind fun bt1024 => ((laws_eqBlock.f k bt1013.1 bt1013.2.1 bt1013.2.2.1 bt1013.2.2.2.1 bt1013.2.2.2.2 bt1024.1 bt1024.2.1 bt1024.2.2.1 bt1024.2.2.2.1 bt1024.2.2.2.2).bind fun t1033 => (if t1033 = true then (some true) else (none))))))))))
theorem laws_FnExactGoodBlock.mono : ∀ a0 a1 a2 a3 a4 k, LeO (laws_FnExactGoodBlock.f k a0 a1 a2 a3 a4) (laws_FnExactGoodBlock.f (k + 1) a0 a1 a2 a3 a4) := by
 intro a0 a1 a2 a3 a4 k
 unfold laws_FnExactGoodBlock.f
 repeat' first
   | with_reducible first | exact impl_GoodBlock.mono _ _ _ _ _ _ | exact laws_eqBlock.mono _ _ _ _ _ _ _ _ _ _ _ | exact laws_szBlock.mono _ _ _ _ _ _ _ | exact laws_toBlock.mono _ _ _ _ _ _ | exact spec_GoodBlock.mono _ _ _ _ _ _ | exact LeO.refl _ | exact LeO.none _ | refine LeO.ite ?_ ?_ | refine LeO.bind ?_ (fun _ => ?_)
   | exact impl_GoodBlock.mono _ _ _ _ _ _
   | exact laws_eqBlock.mono _ _ _ _ _ _ _ _ _ _ _
   | exact laws_szBlock.mono _ _ _ _ _ _ _
   | exact laws_toBlock.mono _ _ _ _ _ _
   | exact spec_GoodBlock.mono _ _ _ _ _ _
   | exact LeO.none _
   | refine LeO.ite ?_ ?_
   | refine LeO.bind ?_ (fun _ => ?_)
set_option maxHeartbeats 8000000 in
set_option maxRecDepth 100000 in
theorem laws_FnExactGoodBlock.calls (k : Nat) (a0_0 : Int) (a0_1 : Int) (a0_2 : Int) (A0_3 : Option Addr) (c0_3 : Nat) (l0_3 : List (S98)) (A0_4 : Option Addr) (c0_4 : Nat) (l0_4 : List (S130)) (r : Bool) (w : World) (hr0_3 : Kd.C k98 w A0_3 l0_3.length l0_3) (hc0_3 : l0_3.length ≤ c0_3) (hr0_4 : Kd.C k130 w A0_4 l0_4.length l0_4) (hc0_4 : l0_4.length ≤ c0_4) (h : laws_FnExactGoodBlock.f k a0_0 a0_1 a0_2 l0_3 l0_4 = some r) :
  Calls Try.prog 3 #[.agg #[.int .i64 a0_0, .int .i64 a0_1, .int .i64 a0_2, .slice A0_3 l0_3.length c0_3, .slice A0_4 l0_4.length c0_4]] w fun e w' => e = .returned (.bool r) ∧ Below w.heap.size w w' := by
 have hu25 := Try.underlying25
 have hu31 := Try.underlying31
 have HR0_3 := am_ hr0_3
 have HC0_3 := am_ hc0_3
 clear hr0_3 hc0_3
 have HR0_4 := am_ hr0_4
 have HC0_4 := am_ hc0_4
 clear hr0_4 hc0_4
 have HB := am_ (Below.refl w.heap.size w)
 have H : ((laws_szBlock.f k a0_0 a0_1 a0_2 l0_3 l0_4 1048576).bind fun t1002 => (if t1002 < 0 then (some true) else ((laws_toBlock.f k a0_0 a0_1 a0_2 l0_3 l0_4).bind fun bt1003 => ((spec_GoodBlock.f k bt1003.1 bt1003.2.1 bt1003.2.2.1 bt1003.2.2.2.1 bt1003.2.2.2.2).bind fun t1012 => ((laws_toBlock.f k a0_0 a0_1 a0_2 l0_3 l0_4).bind fun bt1013 => ((impl_GoodBlock.f k bt1013.1 bt1013.2.1 bt1013.2.2.1 bt1013.2.2.2.1 bt1013.2.2.2.2).bind fun t1023 => (if (t1023 != t1012) = true then (none) else ((laws_toBlock.f k a0_0 a0_1 a0_2 l0_3 l0_4).bind fun bt1024 => ((laws_eqBlock.f k bt1013.1 bt1013.2.1 bt1013.2.2.1 bt1013.2.2.2.1 bt1013.2.2.2.2 bt1024.1 bt1024.2.1 bt1024.2.2.1 bt1024.2.2.2.1 bt1024.2.2.2.2).bind fun t1033 => (if t1033 = true then (some true) else (none))))))))))) = some r := h
 clear h
 replace H := Option.bind_eq_some_iff.mp H
 obtain ⟨t1002, A20, H⟩ := H
 replace H : (if t1002 < 0 then (some true) else ((laws_toBlock.f k a0_0 a0_1 a0_2 l0_3 l0_4).bind fun bt1003 => ((spec_GoodBlock.f k bt1003.1 bt1003.2.1 bt1003.2.2.1 bt1003.2.2.2.1 bt1003.2.2.2.2).bind fun t1012 => ((laws_toBlock.f k a0_0 a0_1 a0_2 l0_3 l0_4).bind fun bt1013 => ((impl_GoodBlock.f k bt1013.1 bt1013.2.1 bt1013.2.2.1 bt1013.2.2.2.1 bt1013.2.2.2.2).bind fun t1023 => (if (t1023 != t1012) = true then (none) else ((laws_toBlock.f k a0_0 a0_1 a0_2 l0_3 l0_4).bind fun bt1024 => ((laws_eqBlock.f k bt1013.1 bt1013.2.1 bt1013.2.2.1 bt1013.2.2.2.1 bt1013.2.2.2.2 bt1024.1 bt1024.2.1 bt1024.2.2.1 bt1024.2.2.2.1 bt1024.2.2.2.2).bind fun t1033 => (if t1033 = true then (some true) else (none)))))))))) = some r := H
 have A2 := am_ A20
 clear A20
 by_cases c3 : t1002 < 0
 ·rw [if_pos c3] at H
  have c3b0 : decide (t1002 < 0) = true := decide_eq_true c3
  clear c3
  obtain rfl := Option.some.inj H
  go_enter Try.func3, Try.ntmps3
  go_wp2_with (first | ((with_reducible refine gate_dst (N := 1) rfl ?_); refine bx_ 1 #[.int .i64 a0_0, .int .i64 a0_1, .int .i64 a0_2, .slice A0_3 l0_3.length c0_3, .slice A0_4 l0_4.length c0_4] 25 ?_; intro gb1001 hg w4 hbox hb; have BK1001 := am_ (hbox); have GW1001 := am_ (gs_ hg : w.heap.size ≤ gb1001); replace HB := am_ (below_step bl_ hb); have GE1001 := GW1001; clear hb hbox hg; have hcz5_0 := bc5_0 BK1001; have hcz5_1 := bc5_1 BK1001; have hcz5_2 := bc5_2 BK1001; have hcz5_3 := bc5_3 BK1001; have hcz5_4 := bc5_4 BK1001; have hfz5_0 := bf_ BK1001 0; have hfz5_1 := bf_ BK1001 1; have hfz5_2 := bf_ BK1001 2; have hfz5_3 := bf_ BK1001 3; have hfz5_4 := bf_ BK1001 4) | ((with_reducible refine gate_callee (f := 8) rfl ?_); refine goesL_ (some 9) rfl rfl Try.func8 (by kernel_rfl) rfl #[.agg #[.int .i64 a0_0, .int .i64 a0_1, .int .i64 a0_2, .slice A0_3 l0_3.length c0_3, .slice A0_4 l0_4.length c0_4], .int .i64 1048576] rfl ag_ ?_; (with_reducible refine (laws_szBlock.calls k a0_0 a0_1 a0_2 _ _ l0_3 _ _ l0_4 1048576 t1002 _ ?side1 ?side2 ?side3 ?side4 A2.out).mono ?_); (case side1 => exact cc_ (Kd.C_below HR0_3.out HB.out)); (case side2 => exact HC0_3.out); (case side3 => exact cc_ (Kd.C_below HR0_4.out HB.out)); (case side4 => exact HC0_4.out); rintro e w6 ⟨rfl, hb⟩; refine ⟨_, rfl, ?_⟩; replace BK1001 := am_ (blk_below (g := gb1001) (vk_ BK1001) hb); replace HB := am_ (below_step bg_ hb); (try clear hb); (try clear hb2); (try clear hk); (try clear hi)))
  go_ret
  exact ⟨rf_, bg_⟩
 ·rw [if_neg c3] at H
  have c3b0 : decide (t1002 < 0) = false := decide_eq_false c3
  clear c3
  replace H := Option.bind_eq_some_iff.mp H
  obtain ⟨⟨t1003, t1004, t1005, t1006, t1009⟩, A70, H⟩ := H
  replace H : ((spec_GoodBlock.f k t1003 t1004 t1005 t1006 t1009).bind fun t1012 => ((laws_toBlock.f k a0_0 a0_1 a0_2 l0_3 l0_4).bind fun bt1013 => ((impl_GoodBlock.f k bt1013.1 bt1013.2.1 bt1013.2.2.1 bt1013.2.2.2.1 bt1013.2.2.2.2).bind fun t1023 => (if (t1023 != t1012) = true then (none) else ((laws_toBlock.f k a0_0 a0_1 a0_2 l0_3 l0_4).bind fun bt1024 => ((laws_eqBlock.f k bt1013.1 bt1013.2.1 bt1013.2.2.1 bt1013.2.2.2.1 bt1013.2.2.2.2 bt1024.1 bt1024.2.1 bt1024.2.2.1 bt1024.2.2.2.1 bt1024.2.2.2.2).bind fun t1033 => (if t1033 = true then (some true) else (none)))))))) = some r := H
  have A7 := am_ A70
  clear A70
  replace H := Option.bind_eq_some_iff.mp H
  obtain ⟨t1012, A80, H⟩ := H
  replace H : ((laws_toBlock.f k a0_0 a0_1 a0_2 l0_3 l0_4).bind fun bt1013 => ((impl_GoodBlock.f k bt1013.1 bt1013.2.1 bt1013.2.2.1 bt1013.2.2.2.1 bt1013.2.2.2.2).bind fun t1023 => (if (t1023 != t1012) = true then (none) else ((laws_toBlock.f k a0_0 a0_1 a0_2 l0_3 l0_4).bind fun bt1024 => ((laws_eqBlock.f k bt1013.1 bt1013.2.1 bt1013.2.2.1 bt1013.2.2.2.1 bt1013.2.2.2.2 bt1024.1 bt1024.2.1 bt1024.2.2.1 bt1024.2.2.2.1 bt1024.2.2.2.2).bind fun t1033 => (if t1033 = true then (some true) else (none))))))) = some r := H
  have A8 := am_ A80
  clear A80
  replace H := Option.bind_eq_some_iff.mp H
  obtain ⟨⟨t1013, t1014, t1015, t1016, t1019⟩, A90, H⟩ := H
  replace H : ((impl_GoodBlock.f k t1013 t1014 t1015 t1016 t1019).bind fun t1023 => (if (t1023 != t1012) = true then (none) else ((laws_toBlock.f k a0_0 a0_1 a0_2 l0_3 l0_4).bind fun bt1024 => ((laws_eqBlock.f k t1013 t1014 t1015 t1016 t1019 bt1024.1 bt1024.2.1 bt1024.2.2.1 bt1024.2.2.2.1 bt1024.2.2.2.2).bind fun t1033 => (if t1033 = true then (some true) else (none)))))) = some r := H
  have A9 := am_ A90
  clear A90
  replace H := Option.bind_eq_some_iff.mp H
  obtain ⟨t1023, A100, H⟩ := H
  replace H : (if (t1023 != t1012) = true then (none) else ((laws_toBlock.f k a0_0 a0_1 a0_2 l0_3 l0_4).bind fun bt1024 => ((laws_eqBlock.f k t1013 t1014 t1015 t1016 t1019 bt1024.1 bt1024.2.1 bt1024.2.2.1 bt1024.2.2.2.1 bt1024.2.2.2.2).bind fun t1033 => (if t1033 = true then (some true) else (none))))) = some r := H
  have A10 := am_ A100
  clear A100
  by_cases c11 : (t1023 != t1012) = true
  ·rw [if_pos c11] at H
   exact absurd H (by simp)
  ·rw [if_neg c11] at H
   have c11b0 : (t1023 != t1012) = false := by simpa using c11
   (try (have c11b1 : decide (t1023 = t1012) = true := by simpa using c11))
   (try (have c11b2 : (t1023 == t1012) = true := by simpa using c11))
   clear c11
   replace H := Option.bind_eq_some_iff.mp H
   obtain ⟨⟨t1024, t1025, t1026, t1027, t1030⟩, A120, H⟩ := H
   replace H : ((laws_eqBlock.f k t1013 t1014 t1015 t1016 t1019 t1024 t1025 t1026 t1027 t1030).bind fun t1033 => (if t1033 = true then (some true) else (none))) = some r := H
   have A12 := am_ A120
   clear A120
   replace H := Option.bind_eq_some_iff.mp H
   obtain ⟨t1033, A130, H⟩ := H
   replace H : (if t1033 = true then (some true) else (none)) = some r := H
   have A13 := am_ A130
   clear A130
   by_cases c14 : t1033 = true
   ·subst c14
    have H1 : (some true) = some r := by rw [if_pos rfl] at H; exact H
    clear H
    have H := H1
    clear H1
    obtain rfl := Option.some.inj H
    go_enter Try.func3, Try.ntmps3
    try go_wp2_with (first | ((with_reducible refine gate_dst (N := 1) rfl ?_); refine bx_ 1 #[.int .i64 a0_0, .int .i64 a0_1, .int .i64 a0_2, .slice A0_3 l0_3.length c0_3, .slice A0_4 l0_4.length c0_4] 25 ?_; intro gb1001 hg w15 hbox hb; have BK1001 := am_ (hbox); have GW1001 := am_ (gs_ hg : w.heap.size ≤ gb1001); replace HB := am_ (below_step bl_ hb); have GE1001 := GW1001; clear hb hbox hg; have hcz16_0 := bc5_0 BK1001; have hcz16_1 := bc5_1 BK1001; have hcz16_2 := bc5_2 BK1001; have hcz16_3 := bc5_3 BK1001; have hcz16_4 := bc5_4 BK1001; have hfz16_0 := bf_ BK1001 0; have hfz16_1 := bf_ BK1001 1; have hfz16_2 := bf_ BK1001 2; have hfz16_3 := bf_ BK1001 3; have hfz16_4 := bf_ BK1001 4) | ((with_reducible refine gate_callee (f := 8) rfl ?_); refine goesL_ (some 9) rfl rfl Try.func8 (by kernel_rfl) rfl #[.agg #[.int .i64 a0_0, .int .i64 a0_1, .int .i64 a0_2, .slice A0_3 l0_3.length c0_3, .slice A0_4 l0_4.length c0_4], .int .i64 1048576] rfl ag_ ?_; (with_reducible refine (laws_szBlock.calls k a0_0 a0_1 a0_2 _ _ l0_3 _ _ l0_4 1048576 t1002 _ ?side1 ?side2 ?side3 ?side4 A2.out).mono ?_); (case side1 => exact cc_ (Kd.C_below HR0_3.out HB.out)); (case side2 => exact HC0_3.out); (case side3 => exact cc_ (Kd.C_below HR0_4.out HB.out)); (case side4 => exact HC0_4.out); rintro e w17 ⟨rfl, hb⟩; refine ⟨_, rfl, ?_⟩; replace BK1001 := am_ (blk_below (g := gb1001) (vk_ BK1001) hb); replace HB := am_ (below_step bg_ hb); (try clear hb); (try clear hb2); (try clear hk); (try clear hi); have hcz18_0 := bc5_0 BK1001; have hcz18_1 := bc5_1 BK1001; have hcz18_2 := bc5_2 BK1001; have hcz18_3 := bc5_3 BK1001; have hcz18_4 := bc5_4 BK1001; have hfz18_0 := bf_ BK1001 0; have hfz18_1 := bf_ BK1001 1; have hfz18_2 := bf_ BK1001 2; have hfz18_3 := bf_ BK1001 3; have hfz18_4 := bf_ BK1001 4) | ((with_reducible refine gate_callee (f := 10) rfl ?_); refine goesL_ (some 13) rfl rfl Try.func10 (by kernel_rfl) rfl #[.agg #[.int .i64 a0_0, .int .i64 a0_1, .int .i64 a0_2, .slice A0_3 l0_3.length c0_3, .slice A0_4 l0_4.length c0_4]] rfl ag_ ?_; (with_reducible refine (laws_toBlock.calls k a0_0 a0_1 a0_2 _ _ l0_3 _ _ l0_4 t1003 t1004 t1005 t1006 t1009 _ ?side1 ?side2 ?side3 ?side4 A7.out).mono ?_); (case side1 => exact cc_ (Kd.C_below HR0_3.out HB.out)); (case side2 => exact HC0_3.out); (case side3 => exact cc_ (Kd.C_below HR0_4.out HB.out)); (case side4 => exact HC0_4.out); rintro e w19 ⟨v1007, v1010, rfl, ho0, ho1, hb⟩; refine ⟨_, rfl, ?_⟩; have HO1008 := am_ (Kd.S_lower ho0 (below_size bg_)); have HO1011 := am_ (Kd.S_lower ho1 (below_size bg_)); replace BK1001 := am_ (blk_below (g := gb1001) (vk_ BK1001) hb); replace HB := am_ (below_step bg_ hb); (try clear hb); (try clear hb2); (try clear hk); (try clear hi); (try clear ho0); (try clear ho1); obtain ⟨Ao20, co20, eo20⟩ := Kd.S_slice HO1008.out; subst eo20; obtain ⟨Ao21, co21, eo21⟩ := Kd.S_slice HO1011.out; subst eo21) | ((with_reducible refine gate_callee (f := 9) rfl ?_); refine goesL_ (some 14) rfl rfl Try.func9 (by kernel_rfl) rfl #[.agg #[.int .i64 t1003, .int .i64 t1004, .int .i64 t1005, .slice Ao20 t1006.length co20, .slice Ao21 t1009.length co21]] rfl ag_ ?_; (with_reducible refine (spec_GoodBlock.calls k t1003 t1004 t1005 _ _ t1006 _ _ t1009 t1012 _ ?side1 ?side2 ?side3 ?side4 A8.out).mono ?_); (case side1 => exact cc_ (Kd.S_reads' HO1008.out).2.2); (case side2 => exact (Kd.S_reads' HO1008.out).2.1); (case side3 => exact cc_ (Kd.S_reads' HO1011.out).2.2); (case side4 => exact (Kd.S_reads' HO1011.out).2.1); rintro e w22 ⟨rfl, hb⟩; refine ⟨_, rfl, ?_⟩; replace HO1008 := am_ (Kd.S_below (by (with_reducible repeat (first | apply Kd.S_alloc | apply Kd.S_drewN | apply Kd.S_drew)); exact HO1008.out) hb); replace HO1011 := am_ (Kd.S_below (by (with_reducible repeat (first | apply Kd.S_alloc | apply Kd.S_drewN | apply Kd.S_drew)); exact HO1011.out) hb); replace BK1001 := am_ (blk_below (g := gb1001) (vk_ BK1001) hb); replace HB := am_ (below_step bg_ hb); (try clear hb); (try clear hb2); (try clear hk); (try clear hi); have hcz23_0 := bc5_0 BK1001; have hcz23_1 := bc5_1 BK1001; have hcz23_2 := bc5_2 BK1001; have hcz23_3 := bc5_3 BK1001; have hcz23_4 := bc5_4 BK1001; have hfz23_0 := bf_ BK1001 0; have hfz23_1 := bf_ BK1001 1; have hfz23_2 := bf_ BK1001 2; have hfz23_3 := bf_ BK1001 3; have hfz23_4 := bf_ BK1001 4) | ((with_reducible refine gate_callee (f := 10) rfl ?_); refine goesL_ (some 16) rfl rfl Try.func10 (by kernel_rfl) rfl #[.agg #[.int .i64 a0_0, .int .i64 a0_1, .int .i64 a0_2, .slice A0_3 l0_3.length c0_3, .slice A0_4 l0_4.length c0_4]] rfl ag_ ?_; (with_reducible refine (laws_toBlock.calls k a0_0 a0_1 a0_2 _ _ l0_3 _ _ l0_4 t1013 t1014 t1015 t1016 t1019 _ ?side1 ?side2 ?side3 ?side4 A9.out).mono ?_); (case side1 => exact cc_ (Kd.C_below HR0_3.out HB.out)); (case side2 => exact HC0_3.out); (case side3 => exact cc_ (Kd.C_below HR0_4.out HB.out)); (case side4 => exact HC0_4.out); rintro e w24 ⟨v1017, v1020, rfl, ho0, ho1, hb⟩; refine ⟨_, rfl, ?_⟩; have HO1018 := am_ (Kd.S_lower (Kd.S_new' ho0 (Kd.S_lt (by (with_reducible repeat (first | apply Kd.S_alloc | apply Kd.S_drewN | apply Kd.S_drew)); exact HO1008.out))) (below_size bg_)); have HO1021 := am_ (Kd.S_lower (Kd.S_new' ho1 (Kd.S_lt (by (with_reducible repeat (first | apply Kd.S_alloc | apply Kd.S_drewN | apply Kd.S_drew)); exact HO1011.out))) (below_size bg_)); replace HO1008 := am_ (Kd.S_elder' (by (with_reducible repeat (first | apply Kd.S_alloc | apply Kd.S_drewN | apply Kd.S_drew)); exact HO1008.out) (Kd.S_base ho0) hb); replace HO1011 := am_ (Kd.S_elder' (by (with_reducible repeat (first | apply Kd.S_alloc | apply Kd.S_drewN | apply Kd.S_drew)); exact HO1011.out) (Kd.S_base ho1) hb); replace BK1001 := am_ (blk_below (g := gb1001) (vk_ BK1001) hb); replace HB := am_ (below_step bg_ hb); (try clear hb); (try clear hb2); (try clear hk); (try clear hi); (try clear ho0); (try clear ho1)) | ((with_reducible refine gate_dst (N := 5) rfl ?_); refine bx_ 5 #[.int .i64 0, .int .i64 0, .int .i64 0, .slice none 0 0, .slice none 0 0] 31 ?_; intro gb1022 hg w25 hbox hb; have BK1022 := am_ (hbox); have GW1022 := am_ (gg_ hg : w.heap.size ≤ gb1022); have NB1001_1022 := am_ ((by rw [hg]; exact Nat.ne_of_lt (blk_lt (g := gb1001) (o := .cells #[.int .i64 a0_0, .int .i64 a0_1, .int .i64 a0_2, .slice A0_3 l0_3.length c0_3, .slice A0_4 l0_4.length c0_4] 25 (0, 0)) (vk_ BK1001)) : gb1001 ≠ gb1022)); have NB1022_1001 := am_ ((by rw [hg]; exact Nat.ne_of_gt (blk_lt (g := gb1001) (o := .cells #[.int .i64 a0_0, .int .i64 a0_1, .int .i64 a0_2, .slice A0_3 l0_3.length c0_3, .slice A0_4 l0_4.length c0_4] 25 (0, 0)) (vk_ BK1001)) : gb1022 ≠ gb1001)); replace HO1008 := am_ (Kd.S_below (by (with_reducible repeat (first | apply Kd.S_alloc | apply Kd.S_drewN | apply Kd.S_drew)); exact HO1008.out) hb); replace HO1011 := am_ (Kd.S_below (by (with_reducible repeat (first | apply Kd.S_alloc | apply Kd.S_drewN | apply Kd.S_drew)); exact HO1011.out) hb); replace HO1018 := am_ (Kd.S_below (by (with_reducible repeat (first | apply Kd.S_alloc | apply Kd.S_drewN | apply Kd.S_drew)); exact HO1018.out) hb); replace HO1021 := am_ (Kd.S_below (by (with_reducible repeat (first | apply Kd.S_alloc | apply Kd.S_drewN | apply Kd.S_drew)); exact HO1021.out) hb); replace BK1001 := am_ (blk_below (g := gb1001) (vk_ BK1001) hb); replace HB := am_ (below_step bg_ hb); have GE1022 := GW1022; clear hb hbox hg; have hnb26 := NB1022_1001.out; have hnc26 := NB1001_1022.out; have hcz27_0 := bc5_0 BK1022; have hcz27_1 := bc5_1 BK1022; have hcz27_2 := bc5_2 BK1022; have hcz27_3 := bc5_3 BK1022; have hcz27_4 := bc5_4 BK1022; have hfz27_0 := bf_ BK1022 0; have hfz27_1 := bf_ BK1022 1; have hfz27_2 := bf_ BK1022 2; have hfz27_3 := bf_ BK1022 3; have hfz27_4 := bf_ BK1022 4; obtain ⟨Ao28, co28, eo28⟩ := Kd.S_slice HO1018.out; subst eo28; obtain ⟨Ao29, co29, eo29⟩ := Kd.S_slice HO1021.out; subst eo29) | ((with_reducible refine gate_callee (f := 11) rfl ?_); refine goesL_ (some 18) rfl rfl Try.func11 (by kernel_rfl) rfl #[.agg #[.int .i64 t1013, .int .i64 t1014, .int .i64 t1015, .slice Ao28 t1016.length co28, .slice Ao29 t1019.length co29]] rfl ag_ ?_; (with_reducible refine (impl_GoodBlock.calls k t1013 t1014 t1015 _ _ t1016 _ _ t1019 t1023 _ ?side1 ?side2 ?side3 ?side4 A10.out).mono ?_); (case side1 => refine (Kd.S_reads' (e := 83) (base := w.heap.size) (ok := fun k_ => (True ∧ some k_ ≠ (.slice Ao20 t1006.length co20 : Value).ownBlock)) (n := t1016.length) (c := co28) ?_).2.2; exact (by (with_reducible repeat (first | apply Kd.S_alloc | apply Kd.S_drewN | apply Kd.S_drew)); exact (Kd.S_mono (Kd.S_far (p := ⟨gb1022, 4, none⟩) (Kd.S_far (p := ⟨gb1022, 3, none⟩) (Kd.S_far (p := ⟨gb1022, 2, none⟩) (Kd.S_far (p := ⟨gb1022, 1, none⟩) (Kd.S_far (p := ⟨gb1022, 0, none⟩) (Kd.S_types HO1018.out BK1022.out (by decide)) (fun _ hk => hk.2) (.int .i64 t1013)) (fun _ hk => hk.2) (.int .i64 t1014)) (fun _ hk => hk.2) (.int .i64 t1015)) (fun _ hk => hk.2) (.slice Ao28 t1016.length co28)) (fun _ hk => hk.2) (.slice Ao29 t1019.length co29)) (fun _ h_ => h_.1)))); (case side2 => exact (Kd.S_reads' HO1018.out).2.1); (case side3 => refine (Kd.S_reads' (e := 87) (base := w.heap.size) (ok := fun k_ => (True ∧ some k_ ≠ (.slice Ao21 t1009.length co21 : Value).ownBlock)) (n := t1019.length) (c := co29) ?_).2.2; exact (by (with_reducible repeat (first | apply Kd.S_alloc | apply Kd.S_drewN | apply Kd.S_drew)); exact (Kd.S_mono (Kd.S_far (p := ⟨gb1022, 4, none⟩) (Kd.S_far (p := ⟨gb1022, 3, none⟩) (Kd.S_far (p := ⟨gb1022, 2, none⟩) (Kd.S_far (p := ⟨gb1022, 1, none⟩) (Kd.S_far (p := ⟨gb1022, 0, none⟩) (Kd.S_types HO1021.out BK1022.out (by decide)) (fun _ hk => hk.2) (.int .i64 t1013)) (fun _ hk => hk.2) (.int .i64 t1014)) (fun _ hk => hk.2) (.int .i64 t1015)) (fun _ hk => hk.2) (.slice Ao28 t1016.length co28)) (fun _ hk => hk.2) (.slice Ao29 t1019.length co29)) (fun _ h_ => h_.1)))); (case side4 => exact (Kd.S_reads' HO1021.out).2.1); rintro e w30 ⟨rfl, hb⟩; refine ⟨_, rfl, ?_⟩; replace HO1008 := am_ (Kd.S_below (by (with_reducible repeat (first | apply Kd.S_alloc | apply Kd.S_drewN | apply Kd.S_drew)); exact (Kd.S_mono (Kd.S_far (p := ⟨gb1022, 4, none⟩) (Kd.S_far (p := ⟨gb1022, 3, none⟩) (Kd.S_far (p := ⟨gb1022, 2, none⟩) (Kd.S_far (p := ⟨gb1022, 1, none⟩) (Kd.S_far (p := ⟨gb1022, 0, none⟩) (Kd.S_types HO1008.out BK1022.out (by decide)) (fun _ hk => hk.2) (.int .i64 t1013)) (fun _ hk => hk.2) (.int .i64 t1014)) (fun _ hk => hk.2) (.int .i64 t1015)) (fun _ hk => hk.2) (.slice Ao28 t1016.length co28)) (fun _ hk => hk.2) (.slice Ao29 t1019.length co29)) (fun _ h_ => h_.1))) hb); replace HO1011 := am_ (Kd.S_below (by (with_reducible repeat (first | apply Kd.S_alloc | apply Kd.S_drewN | apply Kd.S_drew)); exact (Kd.S_mono (Kd.S_far (p := ⟨gb1022, 4, none⟩) (Kd.S_far (p := ⟨gb1022, 3, none⟩) (Kd.S_far (p := ⟨gb1022, 2, none⟩) (Kd.S_far (p := ⟨gb1022, 1, none⟩) (Kd.S_far (p := ⟨gb1022, 0, none⟩) (Kd.S_types HO1011.out BK1022.out (by decide)) (fun _ hk => hk.2) (.int .i64 t1013)) (fun _ hk => hk.2) (.int .i64 t1014)) (fun _ hk => hk.2) (.int .i64 t1015)) (fun _ hk => hk.2) (.slice Ao28 t1016.length co28)) (fun _ hk => hk.2) (.slice Ao29 t1019.length co29)) (fun _ h_ => h_.1))) hb); replace HO1018 := am_ (Kd.S_below (by (with_reducible repeat (first | apply Kd.S_alloc | apply Kd.S_drewN | apply Kd.S_drew)); exact (Kd.S_mono (Kd.S_far (p := ⟨gb1022, 4, none⟩) (Kd.S_far (p := ⟨gb1022, 3, none⟩) (Kd.S_far (p := ⟨gb1022, 2, none⟩) (Kd.S_far (p := ⟨gb1022, 1, none⟩) (Kd.S_far (p := ⟨gb1022, 0, none⟩) (Kd.S_types HO1018.out BK1022.out (by decide)) (fun _ hk => hk.2) (.int .i64 t1013)) (fun _ hk => hk.2) (.int .i64 t1014)) (fun _ hk => hk.2) (.int .i64 t1015)) (fun _ hk => hk.2) (.slice Ao28 t1016.length co28)) (fun _ hk => hk.2) (.slice Ao29 t1019.length co29)) (fun _ h_ => h_.1))) hb); replace HO1021 := am_ (Kd.S_below (by (with_reducible repeat (first | apply Kd.S_alloc | apply Kd.S_drewN | apply Kd.S_drew)); exact (Kd.S_mono (Kd.S_far (p := ⟨gb1022, 4, none⟩) (Kd.S_far (p := ⟨gb1022, 3, none⟩) (Kd.S_far (p := ⟨gb1022, 2, none⟩) (Kd.S_far (p := ⟨gb1022, 1, none⟩) (Kd.S_far (p := ⟨gb1022, 0, none⟩) (Kd.S_types HO1021.out BK1022.out (by decide)) (fun _ hk => hk.2) (.int .i64 t1013)) (fun _ hk => hk.2) (.int .i64 t1014)) (fun _ hk => hk.2) (.int .i64 t1015)) (fun _ hk => hk.2) (.slice Ao28 t1016.length co28)) (fun _ hk => hk.2) (.slice Ao29 t1019.length co29)) (fun _ h_ => h_.1))) hb); replace BK1001 := am_ (blk_below (g := gb1001) (o := .cells #[.int .i64 a0_0, .int .i64 a0_1, .int .i64 a0_2, .slice A0_3 l0_3.length c0_3, .slice A0_4 l0_4.length c0_4] 25 (0, 0)) (by (with_reducible repeat (first | refine blk_drewN ?_ _ | refine blk_drew ?_ | refine blk_alloc ?_ _)); refine blk_far ?_ NB1001_1022.out _; (with_reducible repeat (first | refine blk_drewN ?_ _ | refine blk_drew ?_ | refine blk_alloc ?_ _)); refine blk_far ?_ NB1001_1022.out _; (with_reducible repeat (first | refine blk_drewN ?_ _ | refine blk_drew ?_ | refine blk_alloc ?_ _)); refine blk_far ?_ NB1001_1022.out _; (with_reducible repeat (first | refine blk_drewN ?_ _ | refine blk_drew ?_ | refine blk_alloc ?_ _)); refine blk_far ?_ NB1001_1022.out _; (with_reducible repeat (first | refine blk_drewN ?_ _ | refine blk_drew ?_ | refine blk_alloc ?_ _)); refine blk_far ?_ NB1001_1022.out _; (with_reducible repeat (first | refine blk_drewN ?_ _ | refine blk_drew ?_ | refine blk_alloc ?_ _)); exact BK1001.out) hb); replace BK1022 := am_ (blk_below (g := gb1022) (o := .cells #[.int .i64 t1013, .int .i64 t1014, .int .i64 t1015, .slice Ao28 t1016.length co28, .slice Ao29 t1019.length co29] 31 (0, 0)) (by (with_reducible repeat (first | refine blk_drewN ?_ _ | refine blk_drew ?_ | refine blk_alloc ?_ _)); refine blk_put (cs := #[.int .i64 t1013, .int .i64 t1014, .int .i64 t1015, .slice Ao28 t1016.length co28, .slice none 0 0]) ?_ 4 _ rfl; (with_reducible repeat (first | refine blk_drewN ?_ _ | refine blk_drew ?_ | refine blk_alloc ?_ _)); refine blk_put (cs := #[.int .i64 t1013, .int .i64 t1014, .int .i64 t1015, .slice none 0 0, .slice none 0 0]) ?_ 3 _ rfl; (with_reducible repeat (first | refine blk_drewN ?_ _ | refine blk_drew ?_ | refine blk_alloc ?_ _)); refine blk_put (cs := #[.int .i64 t1013, .int .i64 t1014, .int .i64 0, .slice none 0 0, .slice none 0 0]) ?_ 2 _ rfl; (with_reducible repeat (first | refine blk_drewN ?_ _ | refine blk_drew ?_ | refine blk_alloc ?_ _)); refine blk_put (cs := #[.int .i64 t1013, .int .i64 0, .int .i64 0, .slice none 0 0, .slice none 0 0]) ?_ 1 _ rfl; (with_reducible repeat (first | refine blk_drewN ?_ _ | refine blk_drew ?_ | refine blk_alloc ?_ _)); refine blk_put (cs := #[.int .i64 0, .int .i64 0, .int .i64 0, .slice none 0 0, .slice none 0 0]) ?_ 0 _ rfl; (with_reducible repeat (first | refine blk_drewN ?_ _ | refine blk_drew ?_ | refine blk_alloc ?_ _)); exact BK1022.out) hb); replace HB := am_ (below_step bg_ hb); (try clear hb); (try clear hb2); (try clear hk); (try clear hi)))
    have n0_ := am_ (Kd.S_drew HO1008.out)
    have n1_ := am_ (Kd.S_drew HO1011.out)
    have n2_ := am_ (Kd.S_drew HO1018.out)
    have n3_ := am_ (Kd.S_drew HO1021.out)
    have n4_ := am_ (blk_drew BK1001.out)
    have n5_ := am_ (blk_drew BK1022.out)
    have n6_ := am_ (below_drew1 HB.out)
    clear HO1008
    clear HO1011
    clear HO1018
    clear HO1021
    clear BK1001
    clear BK1022
    clear HB
    have HO1008 := n0_
    have HO1011 := n1_
    have HO1018 := n2_
    have HO1021 := n3_
    have BK1001 := n4_
    have BK1022 := n5_
    have HB := n6_
    clear n0_ n1_ n2_ n3_ n4_ n5_ n6_
    refine start_ (n := 5) (S := fun w' => w'.cell? ⟨gb1022, 0, none⟩ = some (.int .i64 t1013) ∧ w'.cell? ⟨gb1022, 1, none⟩ = some (.int .i64 t1014) ∧ w'.cell? ⟨gb1022, 2, none⟩ = some (.int .i64 t1015) ∧ w'.cell? ⟨gb1022, 3, none⟩ = some (.slice Ao28 t1016.length co28) ∧ w'.cell? ⟨gb1022, 4, none⟩ = some (.slice Ao29 t1019.length co29) ∧ w'.cell? ⟨gb1001, 0, none⟩ = some (.int .i64 a0_0) ∧ w'.cell? ⟨gb1001, 1, none⟩ = some (.int .i64 a0_1) ∧ w'.cell? ⟨gb1001, 2, none⟩ = some (.int .i64 a0_2) ∧ w'.cell? ⟨gb1001, 3, none⟩ = some (.slice A0_3 l0_3.length c0_3) ∧ w'.cell? ⟨gb1001, 4, none⟩ = some (.slice A0_4 l0_4.length c0_4)) (ds := []) (bz 5 0) (by kernel_rfl) rfl rfl ⟨(blk_cell BK1022.out 0).trans rfl, (blk_cell BK1022.out 1).trans rfl, (blk_cell BK1022.out 2).trans rfl, (blk_cell BK1022.out 3).trans rfl, (blk_cell BK1022.out 4).trans rfl, (blk_cell BK1001.out 0).trans rfl, (blk_cell BK1001.out 1).trans rfl, (blk_cell BK1001.out 2).trans rfl, (blk_cell BK1001.out 3).trans rfl, (blk_cell BK1001.out 4).trans rfl⟩ (fun hHeld => ?_)
    generalize w30.drew = w31 at HO1008 HO1011 HO1018 HO1021 BK1001 BK1022 HB hHeld ⊢
    refine take_ (i := 0) (N := some 22) (v := ?_) (a' := ?_) (bz 5 1) rfl rfl (by kernel_rfl) (fun _ _ _ h => h) (Or.inl ⟨by rfl, ?_⟩) hHeld ?_ ?_
    rotate_left
    ·rintro w' ⟨s0, s1, s2, s3, s4, s5, s6, s7, s8, s9⟩
     go_simp
     with_reducible rfl
    rotate_left
    ·simp only [Act.put, List.setIfInBounds_toArray, List.set_cons_zero, List.set_cons_succ, i64_w, i32_w]
     rfl
    refine take_ (i := 1) (N := some 23) (v := ?_) (a' := ?_) (bz 5 3) rfl rfl (by kernel_rfl) (fun _ _ _ h => h) (Or.inl ⟨by rfl, ?_⟩) hHeld ?_ ?_
    rotate_left
    ·rintro w' ⟨s0, s1, s2, s3, s4, s5, s6, s7, s8, s9⟩
     go_simp
     with_reducible rfl
    rotate_left
    ·simp only [Act.put, List.setIfInBounds_toArray, List.set_cons_zero, List.set_cons_succ, i64_w, i32_w]
     rfl
    refine one_ (i := 2) (N := some 24) (bz 5 7) rfl rfl (by kernel_rfl) (by decide) (fun K hK => ?_)
    refine goes_ Try.func10 (by kernel_rfl) rfl #[.agg #[.int .i64 a0_0, .int .i64 a0_1, .int .i64 a0_2, .slice A0_3 l0_3.length c0_3, .slice A0_4 l0_4.length c0_4]] (by rfl) rfl rfl ag_ ?_
    with_reducible refine (laws_toBlock.calls k a0_0 a0_1 a0_2 _ _ l0_3 _ _ l0_4 t1024 t1025 t1026 t1027 t1030 _ ?side1 ?side2 ?side3 ?side4 A12.out).mono ?_
    (case side1 => exact cc_ (Kd.C_below HR0_3.out HB.out))
    (case side2 => exact HC0_3.out)
    (case side3 => exact cc_ (Kd.C_below HR0_4.out HB.out))
    (case side4 => exact HC0_4.out)
    rintro e w32 ⟨v1028, v1031, rfl, ho0, ho1, hb⟩
    refine ⟨_, rfl, ?_⟩
    have n0_ := am_ (Kd.S_elder' (by (with_reducible repeat (first | apply Kd.S_alloc | apply Kd.S_drewN | apply Kd.S_drew)); exact HO1008.out) (Kd.S_base ho0) hb)
    have n1_ := am_ (Kd.S_elder' (by (with_reducible repeat (first | apply Kd.S_alloc | apply Kd.S_drewN | apply Kd.S_drew)); exact HO1011.out) (Kd.S_base ho1) hb)
    have n2_ := am_ (Kd.S_elder' (by (with_reducible repeat (first | apply Kd.S_alloc | apply Kd.S_drewN | apply Kd.S_drew)); exact HO1018.out) (Kd.S_base ho0) hb)
    have n3_ := am_ (Kd.S_elder' (by (with_reducible repeat (first | apply Kd.S_alloc | apply Kd.S_drewN | apply Kd.S_drew)); exact HO1021.out) (Kd.S_base ho1) hb)
    have n4_ := am_ (Kd.S_lower (Kd.S_new' (Kd.S_new' ho0 (Kd.S_lt (by (with_reducible repeat (first | apply Kd.S_alloc | apply Kd.S_drewN | apply Kd.S_drew)); exact HO1008.out))) (Kd.S_lt (by (with_reducible repeat (first | apply Kd.S_alloc | apply Kd.S_drewN | apply Kd.S_drew)); exact HO1018.out))) (below_size bg_))
    have n5_ := am_ (Kd.S_lower (Kd.S_new' (Kd.S_new' ho1 (Kd.S_lt (by (with_reducible repeat (first | apply Kd.S_alloc | apply Kd.S_drewN | apply Kd.S_drew)); exact HO1011.out))) (Kd.S_lt (by (with_reducible repeat (first | apply Kd.S_alloc | apply Kd.S_drewN | apply Kd.S_drew)); exact HO1021.out))) (below_size bg_))
    have n6_ := am_ (blk_below (g := gb1001) (vk_ BK1001) hb)
    have n7_ := am_ (blk_below (g := gb1022) (vk_ BK1022) hb)
    have n8_ := am_ (below_step bg_ hb)
    clear HO1008
    clear HO1011
    clear HO1018
    clear HO1021
    clear BK1001
    clear BK1022
    clear HB
    have HO1008 := n0_
    have HO1011 := n1_
    have HO1018 := n2_
    have HO1021 := n3_
    have HO1029 := n4_
    have HO1032 := n5_
    have BK1001 := n6_
    have BK1022 := n7_
    have HB := n8_
    clear n0_ n1_ n2_ n3_ n4_ n5_ n6_ n7_ n8_
    (try clear hb)
    (try clear hb2)
    (try clear hk)
    (try clear hi)
    (try clear ho0)
    (try clear ho1)
    obtain ⟨Ao33, co33, eo33⟩ := Kd.S_slice HO1029.out
    (first | subst eo33 | (injection eo33 with f1_ f2_ f3_; have f4_ := f1_.symm; have f5_ := f3_.symm; clear f1_ f2_ f3_; subst f4_; subst f5_))
    obtain ⟨Ao34, co34, eo34⟩ := Kd.S_slice HO1032.out
    (first | subst eo34 | (injection eo34 with f1_ f2_ f3_; have f4_ := f1_.symm; have f5_ := f3_.symm; clear f1_ f2_ f3_; subst f4_; subst f5_))
    refine hK.out _ _ ⟨(blk_cell BK1022.out 0).trans rfl, (blk_cell BK1022.out 1).trans rfl, (blk_cell BK1022.out 2).trans rfl, (blk_cell BK1022.out 3).trans rfl, (blk_cell BK1022.out 4).trans rfl, (blk_cell BK1001.out 0).trans rfl, (blk_cell BK1001.out 1).trans rfl, (blk_cell BK1001.out 2).trans rfl, (blk_cell BK1001.out 3).trans rfl, (blk_cell BK1001.out 4).trans rfl⟩ (fun hHeld => ?_)
    clear hK K
    refine norm_ (a' := ?_) ?_ ?_
    rotate_left
    ·show Act.put _ (some 24) _ = _
     simp only [Act.put, List.setIfInBounds_toArray, List.set_cons_zero, List.set_cons_succ, i64_w, i32_w]
     rfl
    refine one_ (i := 3) (N := some 25) (bz 5 15) rfl rfl (by kernel_rfl) (by decide) (fun K hK => ?_)
    refine goes_ Try.func12 (by kernel_rfl) rfl #[.agg #[.int .i64 t1013, .int .i64 t1014, .int .i64 t1015, .slice Ao28 t1016.length co28, .slice Ao29 t1019.length co29], .agg #[.int .i64 t1024, .int .i64 t1025, .int .i64 t1026, .slice Ao33 t1027.length co33, .slice Ao34 t1030.length co34]] (by rfl) rfl rfl ag_ ?_
    with_reducible refine (laws_eqBlock.calls k t1013 t1014 t1015 _ _ t1016 _ _ t1019 t1024 t1025 t1026 _ _ t1027 _ _ t1030 true _ ?side1 ?side2 ?side3 ?side4 ?side5 ?side6 ?side7 ?side8 A13.out).mono ?_
    (case side1 => exact cc_ (Kd.S_reads' HO1018.out).2.2)
    (case side2 => exact (Kd.S_reads' HO1018.out).2.1)
    (case side3 => exact cc_ (Kd.S_reads' HO1021.out).2.2)
    (case side4 => exact (Kd.S_reads' HO1021.out).2.1)
    (case side5 => exact cc_ (Kd.S_reads' HO1029.out).2.2)
    (case side6 => exact (Kd.S_reads' HO1029.out).2.1)
    (case side7 => exact cc_ (Kd.S_reads' HO1032.out).2.2)
    (case side8 => exact (Kd.S_reads' HO1032.out).2.1)
    rintro e w35 ⟨rfl, hb⟩
    refine ⟨_, rfl, ?_⟩
    have n0_ := am_ (Kd.S_below (by (with_reducible repeat (first | apply Kd.S_alloc | apply Kd.S_drewN | apply Kd.S_drew)); exact HO1008.out) hb)
    have n1_ := am_ (Kd.S_below (by (with_reducible repeat (first | apply Kd.S_alloc | apply Kd.S_drewN | apply Kd.S_drew)); exact HO1011.out) hb)
    have n2_ := am_ (Kd.S_below (by (with_reducible repeat (first | apply Kd.S_alloc | apply Kd.S_drewN | apply Kd.S_drew)); exact HO1018.out) hb)
    have n3_ := am_ (Kd.S_below (by (with_reducible repeat (first | apply Kd.S_alloc | apply Kd.S_drewN | apply Kd.S_drew)); exact HO1021.out) hb)
    have n4_ := am_ (Kd.S_below (by (with_reducible repeat (first | apply Kd.S_alloc | apply Kd.S_drewN | apply Kd.S_drew)); exact HO1029.out) hb)
    have n5_ := am_ (Kd.S_below (by (with_reducible repeat (first | apply Kd.S_alloc | apply Kd.S_drewN | apply Kd.S_drew)); exact HO1032.out) hb)
    have n6_ := am_ (blk_below (g := gb1001) (vk_ BK1001) hb)
    have n7_ := am_ (blk_below (g := gb1022) (vk_ BK1022) hb)
    have n8_ := am_ (below_step bg_ hb)
    clear HO1008
    clear HO1011
    clear HO1018
    clear HO1021
    clear HO1029
    clear HO1032
    clear BK1001
    clear BK1022
    clear HB
    have HO1008 := n0_
    have HO1011 := n1_
    have HO1018 := n2_
    have HO1021 := n3_
    have HO1029 := n4_
    have HO1032 := n5_
    have BK1001 := n6_
    have BK1022 := n7_
    have HB := n8_
    clear n0_ n1_ n2_ n3_ n4_ n5_ n6_ n7_ n8_
    (try clear hb)
    (try clear hb2)
    (try clear hk)
    (try clear hi)
    refine hK.out _ _ ⟨(blk_cell BK1022.out 0).trans rfl, (blk_cell BK1022.out 1).trans rfl, (blk_cell BK1022.out 2).trans rfl, (blk_cell BK1022.out 3).trans rfl, (blk_cell BK1022.out 4).trans rfl, (blk_cell BK1001.out 0).trans rfl, (blk_cell BK1001.out 1).trans rfl, (blk_cell BK1001.out 2).trans rfl, (blk_cell BK1001.out 3).trans rfl, (blk_cell BK1001.out 4).trans rfl⟩ (fun hHeld => ?_)
    clear hK K
    refine norm_ (a' := ?_) ?_ ?_
    rotate_left
    ·show Act.put _ (some 25) _ = _
     simp only [Act.put, List.setIfInBounds_toArray, List.set_cons_zero, List.set_cons_succ, i64_w, i32_w]
     rfl
    refine pure_ (i := 4) (N := some 26) (v := ?_) (a' := ?_) (bz 5 31) rfl rfl (by kernel_rfl) (fun _ _ _ h => h) (Or.inl ⟨by rfl, ?_⟩) ?_ ?_
    rotate_left
    ·intro w'
     go_simp
     with_reducible rfl
    rotate_left
    ·simp only [Act.put, List.setIfInBounds_toArray, List.set_cons_zero, List.set_cons_succ, i64_w, i32_w]
     rfl
    refine done_ (by kernel_rfl) ?_
    try go_wp2
    go_ret
    exact ⟨rf_, bg_⟩
   ·replace c14 := Bool.eq_false_iff.mpr c14
    subst c14
    have H1 : (none) = some r := by rw [if_neg (show ¬ (false = true) by decide)] at H; exact H
    clear H
    have H := H1
    clear H1
    exact absurd H (by simp)

end Go.Proofs.Ytknlgignjbghkaa.Pr
