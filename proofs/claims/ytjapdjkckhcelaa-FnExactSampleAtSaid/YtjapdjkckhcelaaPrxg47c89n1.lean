/- Functions of the given program as plain Lean functions, and that the machine's calls come to them; written by a program of this session; no condition but those that each theorem states. -/
import Derived.Test.YtjapdjkckhcelaaPrx0
import Derived.Test.YtjapdjkckhcelaaPrxg12584n1
import Derived.Test.YtjapdjkckhcelaaPrxg1cf53n1
import Derived.Test.YtjapdjkckhcelaaPrxg6aea3n1
import Derived.Test.YtjapdjkckhcelaaPrxgf8879n1
namespace Go.Proofs.Ytjapdjkckhcelaa.Pr
open Go.RowKit Go.Proofs.YtjapdjkckhcelaaW.PrintWords Go.Proofs.YtjapdjkckhcelaaW.PrintLast Go.Proofs.YtjapdjkckhcelaaW.PrintMore
attribute [local go_sem] max2_int min2_int max_two min_two max_three min_three max_four min_four   -- for this text's walks alone
set_option linter.unusedVariables false
set_option linter.unusedSimpArgs false

/-! ### spec_CutSamples: function 30 -/
def spec_CutSamples.f (k : Nat) (l0 : List (S37)) (a1 : Int) (a2 : Int) : Option ((List (S37))) := (spec_GoodSamples.f k l0).bind fun t1001 => (if t1001 = true then ((spec_l6Cut.f k l0 a1 a2).bind fun t1002 => (some t1002)) else (some ([] : List (S37))))
theorem spec_CutSamples.mono : ∀ a0 a1 a2 k, LeO (spec_CutSamples.f k a0 a1 a2) (spec_CutSamples.f (k + 1) a0 a1 a2) := by
 intro a0 a1 a2 k
 unfold spec_CutSamples.f
 repeat' first
   | with_reducible first | exact spec_GoodSamples.mono _ _ | exact spec_l6Cut.mono _ _ _ _ | exact LeO.refl _ | exact LeO.none _ | refine LeO.ite ?_ ?_ | refine LeO.bind ?_ (fun _ => ?_)
   | exact spec_GoodSamples.mono _ _
   | exact spec_l6Cut.mono _ _ _ _
   | exact LeO.none _
   | refine LeO.ite ?_ ?_
   | refine LeO.bind ?_ (fun _ => ?_)
set_option maxHeartbeats 8000000 in
set_option maxRecDepth 100000 in
theorem spec_CutSamples.calls (k : Nat) (A0 : Option Addr) (c0 : Nat) (l0 : List (S37)) (a1 : Int) (a2 : Int) (r : List (S37)) (w : World) (hr0 : Kd.C k37 w A0 l0.length l0) (hc0 : l0.length ≤ c0) (h : spec_CutSamples.f k l0 a1 a2 = some r) :
  Calls Try.prog 30 #[.slice A0 l0.length c0, .int .i64 a1, .int .i64 a2] w fun e w' => ∃ v0_ : Value, e = .returned (v0_) ∧ Kd.R k37 37 w' w.heap.size (fun _ => True) v0_ r ∧ Below w.heap.size w w' := by
 have HR0 := am_ hr0
 have HC0 := am_ hc0
 clear hr0 hc0
 have HB := am_ (Below.refl w.heap.size w)
 have H : ((spec_GoodSamples.f k l0).bind fun t1001 => (if t1001 = true then ((spec_l6Cut.f k l0 a1 a2).bind fun t1002 => (some t1002)) else (some ([] : List (S37))))) = some r := h
 clear h
 replace H := Option.bind_eq_some_iff.mp H
 obtain ⟨t1001, A40, H⟩ := H
 replace H : (if t1001 = true then ((spec_l6Cut.f k l0 a1 a2).bind fun t1002 => (some t1002)) else (some ([] : List (S37)))) = some r := H
 have A4 := am_ A40
 clear A40
 by_cases c5 : t1001 = true
 ·subst c5
  have H1 : ((spec_l6Cut.f k l0 a1 a2).bind fun t1002 => (some t1002)) = some r := by rw [if_pos rfl] at H; exact H
  clear H
  have H := H1
  clear H1
  replace H := Option.bind_eq_some_iff.mp H
  obtain ⟨t1002, A60, H⟩ := H
  replace H : (some t1002) = some r := H
  have A6 := am_ A60
  clear A60
  obtain rfl := Option.some.inj H
  go_enter Try.func30, Try.ntmps30
  go_wp2_with (first | ((with_reducible refine gate_callee (f := 72) rfl ?_); refine goesL_ (some 8) rfl rfl Try.func72 (by kernel_rfl) rfl #[.slice A0 l0.length c0] rfl ag_ ?_; (with_reducible refine (spec_GoodSamples.calls k _ _ l0 true _ ?side1 ?side2 A4.out).mono ?_); (case side1 => repeat (first | exact HR0.out | (with_reducible refine Kd.C_alloc ?_ _) | (with_reducible refine Kd.C_drewN ?_ _) | (with_reducible refine Kd.C_drew ?_))); (case side2 => exact HC0.out); rintro e w7 ⟨rfl, hb⟩; refine ⟨_, rfl, ?_⟩; have n0_ := am_ (below_step bl_ hb); clear HB; have HB := n0_; clear n0_; (try clear hb); (try clear hb2); (try clear hk); (try clear hi)) | ((with_reducible refine gate_callee (f := 79) rfl ?_); refine goesL_ (some 13) rfl rfl Try.func79 (by kernel_rfl) rfl #[.slice A0 l0.length c0, .int .i64 a1, .int .i64 a2] rfl ag_ ?_; (with_reducible refine (spec_l6Cut.calls k _ _ l0 a1 a2 t1002 _ ?side1 ?side2 A6.out).mono ?_); (case side1 => exact cc_ (Kd.C_below HR0.out HB.out)); (case side2 => exact HC0.out); rintro e w8 ⟨v1003, rfl, ho0, hb⟩; refine ⟨_, rfl, ?_⟩; have n0_ := am_ (Kd.R_lower ho0 (below_size bl_)); have n1_ := am_ (below_step bl_ hb); clear HB; have HO1004 := n0_; have HB := n1_; clear n0_ n1_; (try clear hb); (try clear hb2); (try clear hk); (try clear hi); (try clear ho0)))
  go_ret
  exact ⟨_, rf_, by (with_reducible repeat (first | apply Kd.R_alloc | apply Kd.R_drewN | apply Kd.R_drew)); exact HO1004.out, bl_⟩
 ·replace c5 := Bool.eq_false_iff.mpr c5
  subst c5
  have H1 : (some ([] : List (S37))) = some r := by rw [if_neg (show ¬ (false = true) by decide)] at H; exact H
  clear H
  have H := H1
  clear H1
  obtain rfl := Option.some.inj H
  go_enter Try.func30, Try.ntmps30
  go_wp2_with (first | ((with_reducible refine gate_callee (f := 72) rfl ?_); refine goesL_ (some 8) rfl rfl Try.func72 (by kernel_rfl) rfl #[.slice A0 l0.length c0] rfl ag_ ?_; (with_reducible refine (spec_GoodSamples.calls k _ _ l0 false _ ?side1 ?side2 A4.out).mono ?_); (case side1 => repeat (first | exact HR0.out | (with_reducible refine Kd.C_alloc ?_ _) | (with_reducible refine Kd.C_drewN ?_ _) | (with_reducible refine Kd.C_drew ?_))); (case side2 => exact HC0.out); rintro e w9 ⟨rfl, hb⟩; refine ⟨_, rfl, ?_⟩; have n0_ := am_ (below_step bl_ hb); clear HB; have HB := n0_; clear n0_; (try clear hb); (try clear hb2); (try clear hk); (try clear hi)))
  go_ret
  exact ⟨_, rf_, ni_, bl_⟩

/-! ### impl_Sample: function 119 -/
def impl_Sample.l0 (P : S37 → Option Bool) (l0 : List (S37)) : Nat → List (S37) → Int → Option (List (S37))
 | 0, _, _ => none
 | k + 1, x5, x10 => if x10 < (l0.length : Int) then (if 0 ≤ x10 then ((P (⟨(rd_T37 l0 x10).f0, (rd_T37 l0 x10).f1⟩ : S37)).bind fun b => (if b = true then (if x5.length < 8796093022208 then (impl_Sample.l0 P l0 k (x5 ++ [(⟨(rd_T37 l0 x10).f0, (rd_T37 l0 x10).f1⟩ : S37)]) (wrap64 (x10 + 1))) else none) else (impl_Sample.l0 P l0 k x5 (wrap64 (x10 + 1))))) else none) else some x5
def impl_Sample.f (k : Nat) (P : S37 → Option Bool) (l0 : List (S37)) : Option (List (S37)) := impl_Sample.l0 P l0 k [] 0
theorem impl_Sample.mono_l (P P' : S37 → Option Bool) (hP : ∀ x, LeO (P x) (P' x)) (l0 : List (S37)) : ∀ k x5 x10, LeO (impl_Sample.l0 P l0 k x5 x10) (impl_Sample.l0 P' l0 (k + 1) x5 x10)
 | 0, _, _ => LeO.none _
 | k + 1, x5, x10 => by
  have ih := impl_Sample.mono_l P P' hP l0 k
  unfold impl_Sample.l0
  exact LeO.ite (LeO.ite (LeO.bind (hP _) (fun _ => LeO.ite (LeO.ite (ih _ _) (LeO.none _)) (ih _ _))) (LeO.none _)) (LeO.refl _)
theorem impl_Sample.mono (P P' : S37 → Option Bool) (hP : ∀ x, LeO (P x) (P' x)) (l0 : List (S37)) (k : Nat) : LeO (impl_Sample.f k P l0) (impl_Sample.f (k + 1) P' l0) := impl_Sample.mono_l P P' hP l0 k _ _
set_option maxHeartbeats 8000000 in
set_option maxRecDepth 100000 in
theorem impl_Sample.calls (k : Nat) (P : S37 → Option Bool) (g : Nat) (lb : Array Value) (eg : ∀ args w, (callFunc g args).run Try.prog w = .ok (.enter g args) w) (A0 : Option Addr) (c0 : Nat) (l0 : List (S37)) (r : List (S37)) (w : World) (hr0 : Kd.C k37 w A0 l0.length l0) (hc0 : l0.length ≤ c0)
  (hP : ∀ (W : World) (x : S37) (b : Bool), Below w.heap.size w W → P x = some b → Calls Try.prog g (#[.agg #[.int .i64 (x.f0), .int .i64 (x.f1)]] ++ lb) W fun e w' => e = .returned (.bool b) ∧ Below W.heap.size W w') (h : impl_Sample.f k P l0 = some r) :
  Calls Try.prog 119 #[.slice A0 l0.length c0, .func (.func g) #[] lb] w fun e w' => ∃ v0_ : Value, e = .returned (v0_) ∧ Kd.R k37 37 w' w.heap.size (fun _ => True) v0_ r ∧ Below w.heap.size w w' := by
 have hu := Try.underlying37
 have HR0 := am_ hr0
 have HC0 := am_ hc0
 clear hr0 hc0
 have HB := am_ (Below.refl w.heap.size w)
 have hP' := am_ hP
 clear hP
 have H' := am_ (show impl_Sample.l0 P l0 k [] 0 = some r from h)
 clear h
 go_enter Try.func119, Try.ntmps119
 go_wp2
 go_loopg [5, 10] k (fun kq v5 v10 w' => ∃ (x5_1 : List (S37)) (x10_1 : Int), v10 = .int .i64 x10_1 ∧ Aside0 (impl_Sample.l0 P l0 kq x5_1 x10_1 = some r) ∧ Aside0 (Kd.R k37 37 w' w.heap.size (fun _ => True) v5 x5_1) ∧ Aside0 (Below w.heap.size w w'))
 case atStart => exact ⟨[], 0, rs_, H', ⟨ni_⟩, ⟨bl_⟩⟩
 case round =>
  clear H'
  obtain ⟨x5_1, x10_1, rfl, HA, HO_5, HB⟩ := hrel
  cases gk with
  | zero => exact absurd HA.out (by simp [impl_Sample.l0])
  | succ k1 =>
   have H := HA.out
   clear HA
   simp only [impl_Sample.l0] at H
   by_cases c4 : x10_1 < (l0.length : Int)
   ·rw [if_pos c4] at H
    have c4b0 : decide (x10_1 < (l0.length : Int)) = true := decide_eq_true c4
    by_cases c5 : 0 ≤ x10_1
    ·rw [if_pos c5] at H
     have c5b0 : decide (0 ≤ x10_1) = true := decide_eq_true c5
     obtain ⟨b, hb0, H⟩ := Option.bind_eq_some_iff.mp H
     have HP0 := am_ hb0
     clear hb0
     obtain ⟨ad, e_, hx_0, hx_1⟩ := at_T37 HR0.out x10_1 c5 c4
     cases e_
     replace hx_0 := kp_ HB hx_0
     replace hx_1 := kp_ HB hx_1
     have p_ := eq_true c5
     have q_ := eq_true c4
     clear c4 c5
     have HC7 := am_ H
     clear H
     go_upto_region 5 with (first | ((with_reducible refine gate_dst (N := 7) rfl ?_); refine box_event ?hg (N := 7) ?hd (cs := #[.int .i64 0, .int .i64 0]) (t := 37) ?hr ?_; (case hd => rfl); (case hg => rfl); (case hr => first | (go_simp; done) | (go_simp; rfl)); intro gb hg w8 hbox hb; have n0_ := am_ (Kd.R_below (Kd.R_elderB (ro_ HO_5) gb (Nat.le_of_eq hg.symm)) hb); have n1_ := am_ (below_step bl_ hb); have n2_ := am_ (hbox); have n3_ := am_ (gs_ hg : w.heap.size ≤ gb); clear HO_5; clear HB; have HO_5 := n0_; have HB := n1_; have BK := n2_; have GE := n3_; clear n0_ n1_ n2_ n3_; clear hb hbox hg; have hcz1_0 := bc2_0 BK; have hfz1_0 := bf_ BK 0; have hcz1_1 := bc2_1 BK; have hfz1_1 := bf_ BK 1))
     have n0_ : Aside0 (Kd.R k37 37 (((w8).setCell ⟨gb, 0, none⟩ (.int .i64 ((rd_T37 l0 x10_1).f0))).setCell ⟨gb, 1, none⟩ (.int .i64 ((rd_T37 l0 x10_1).f1))) w.heap.size (fun k_ => k_ ≠ gb) u5 x5_1) := ⟨Kd.R_mono (Kd.R_far (p := ⟨gb, 1, none⟩) (Kd.R_far (p := ⟨gb, 0, none⟩) (Kd.R_mono HO_5.out (fun k_ hk => (⟨hk, hk.2⟩ : _ ∧ k_ ≠ gb))) (fun _ hk => hk.2) (.int .i64 ((rd_T37 l0 x10_1).f0))) (fun _ hk => hk.2) (.int .i64 ((rd_T37 l0 x10_1).f1))) (fun _ hk => hk.1.2)⟩
     have n1_ : Aside0 ((((w8).setCell ⟨gb, 0, none⟩ (.int .i64 ((rd_T37 l0 x10_1).f0))).setCell ⟨gb, 1, none⟩ (.int .i64 ((rd_T37 l0 x10_1).f1))).heap[gb]? = some (.cells #[.int .i64 ((rd_T37 l0 x10_1).f0), .int .i64 ((rd_T37 l0 x10_1).f1)] 37 (0, 0))) := ⟨by refine blk_put (cs := #[.int .i64 ((rd_T37 l0 x10_1).f0), .int .i64 0]) ?_ 1 _ rfl; refine blk_put (cs := #[.int .i64 0, .int .i64 0]) ?_ 0 _ rfl; exact BK.out⟩
     have n2_ : Aside0 (Below w.heap.size w (((w8).setCell ⟨gb, 0, none⟩ (.int .i64 ((rd_T37 l0 x10_1).f0))).setCell ⟨gb, 1, none⟩ (.int .i64 ((rd_T37 l0 x10_1).f1)))) := ⟨bg_⟩
     clear HO_5 BK HB
     generalize ((w8).setCell ⟨gb, 0, none⟩ (.int .i64 ((rd_T37 l0 x10_1).f0))).setCell ⟨gb, 1, none⟩ (.int .i64 ((rd_T37 l0 x10_1).f1)) = w9 at n0_ n1_ n2_ ⊢
     have HO_5 := n0_
     have BK := n1_
     have HB := n2_
     clear n0_ n1_ n2_
     have hcz2_0 := bc2_0 BK; have hfz2_0 := bf_ BK 0; have hcz2_1 := bc2_1 BK; have hfz2_1 := bf_ BK 1
     cases b with
     | true =>
      have H := HC7.out
      rw [if_pos rfl] at H
      by_cases c13 : x5_1.length < 8796093022208
      ·rw [if_pos c13] at H
       have LM := am_ c13
       clear c13
       obtain ⟨y, hy⟩ : ∃ y_ : List (S37), y_ = x5_1 ++ [(⟨(rd_T37 l0 x10_1).f0, (rd_T37 l0 x10_1).f1⟩ : S37)] := ⟨_, rfl⟩
       rw [← hy] at H
       have Ny := am_ hy
       clear hy
       have H' := am_ H
       clear H
       go_wp2_with (first | (with_reducible refine Calls.mono (hP'.out w9 (⟨(rd_T37 l0 x10_1).f0, (rd_T37 l0 x10_1).f1⟩ : S37) true HB.out HP0.out) ?_; rintro e w10 ⟨rfl, hb⟩; have n0_ := am_ (Kd.R_below HO_5.out hb); have n1_ := am_ (blk_below BK.out hb); have n2_ := am_ (below_step HB.out hb); clear HO_5 BK HB; have HO_5 := n0_; have BK := n1_; have HB := n2_; clear n0_ n1_ n2_ hb; have hcz3_0 := bc2_0 BK; have hfz3_0 := bf_ BK 0; have hcz3_1 := bc2_1 BK; have hfz3_1 := bf_ BK 1) | ((with_reducible refine gate_builtin (b := .append) (xs := #[.tmp 17, .tmp 19]) rfl ?_); at_builtin; refine Kd.R_append k37 (w0 := w) w.heap.size rfl (.tmp 17) (.tmp 19) 40 37 (.agg #[(.int .i64 0), (.int .i64 0)]) 16 rfl Try.underlying40 info37 rfl (by decide) (by omega) u5 x5_1 (⟨(rd_T37 l0 x10_1).f0, (rd_T37 l0 x10_1).f1⟩ : S37) [.int .i64 ((rd_T37 l0 x10_1).f0), .int .i64 ((rd_T37 l0 x10_1).f1)] (fun k_ => k_ ≠ gb) (fun _ => False) rfl rfl ?aP (fun _ hk => hk.elim) ?aF ?aO ?aB ?aS ?aL ?_; (case aP => exact k37_mkM _ _ _ (⟨(rd_T37 l0 x10_1).f0, (rd_T37 l0 x10_1).f1⟩ : S37)); (case aB => exact bg_); (case aF => exact (fun k_ hk => Kd.freshB (g := gb) (o := .cells #[.int .i64 ((rd_T37 l0 x10_1).f0), .int .i64 ((rd_T37 l0 x10_1).f1)] 37 (0, 0)) (vk_ BK) k_ hk)); (case aO => exact (ro_ HO_5)); (case aS => exact (below_size bg_)); (case aL => have := LM.out; omega); intro v20 w12 ho hb hg hat; rw [← Ny.out] at ho; have n1_ := am_ (hb); have n2_ := am_ (ho); clear HB; clear HO_5; have HB := n1_; have HO_5 := n2_; clear n1_ n2_; clear ho hb hg hat))
       go_roundg k1
       case measure => omega
       case rel => exact ⟨y, (wrap64 (x10_1 + 1)), rs_, H', ⟨by (with_reducible repeat (first | apply Kd.R_alloc | apply Kd.R_drewN | apply Kd.R_drew)); exact Kd.R_mono HO_5.out (fun _ hk => trivial)⟩, ⟨bg_⟩⟩
      ·rw [if_neg c13] at H
       exact absurd H (by simp)
     | false =>
      have H' : Aside0 (impl_Sample.l0 P l0 k1 x5_1 (wrap64 (x10_1 + 1)) = some r) := ⟨by have H := HC7.out; rw [if_neg (show ¬ (false = true) by decide)] at H; exact H⟩
      go_wp2_with (first | (with_reducible refine Calls.mono (hP'.out w9 (⟨(rd_T37 l0 x10_1).f0, (rd_T37 l0 x10_1).f1⟩ : S37) false HB.out HP0.out) ?_; rintro e w10 ⟨rfl, hb⟩; have n0_ := am_ (Kd.R_below HO_5.out hb); have n2_ := am_ (below_step HB.out hb); clear HO_5 BK HB; have HO_5 := n0_; have HB := n2_; clear n0_ n2_ hb))
      go_roundg k1
      case measure => omega
      case rel => exact ⟨x5_1, (wrap64 (x10_1 + 1)), rs_, H', ⟨by (with_reducible repeat (first | apply Kd.R_alloc | apply Kd.R_drewN | apply Kd.R_drew)); exact Kd.R_mono HO_5.out (fun _ hk => trivial)⟩, ⟨bl_⟩⟩
    ·rw [if_neg c5] at H
     exact absurd H (by simp)
   ·rw [if_neg c4] at H
    have c4b0 : decide (x10_1 < (l0.length : Int)) = false := decide_eq_false c4
    clear c4
    obtain rfl := Option.some.inj H
    go_wp2
    go_ret
    exact ⟨_, rf_, HO_5.out, bl_⟩

/-! ### impl_cut: function 80 -/
set_option maxHeartbeats 4000000 in
theorem impl_cut_1.calls (x : S37) (a1 a2 : Int) (gn gm : Nat) (b : Bool) (w : World) (hc1 : w.cell? ⟨gn, 0, none⟩ = some (.int .i64 a1)) (hc2 : w.cell? ⟨gm, 0, none⟩ = some (.int .i64 a2)) (h : (decide (x.f0 ≥ a1) && decide (x.f0 ≤ a2)) = b) :
  Calls Try.prog 120 #[.agg #[.int .i64 (x.f0), .int .i64 (x.f1)], .pointer (some ⟨gn, 0, none⟩), .pointer (some ⟨gm, 0, none⟩)] w fun e w' => e = .returned (.bool b) ∧ Below w.heap.size w w' := by
 have hu := Try.underlying37
 have HB := am_ (Below.refl w.heap.size w)
 have HX := am_ hc1
 have HY := am_ hc2
 clear hc1 hc2
 by_cases h1 : a1 ≤ x.f0
 ·have g1 : decide (a1 ≤ x.f0) = true := decide_eq_true h1
  by_cases h2 : x.f0 ≤ a2
  ·have g2 : decide (x.f0 ≤ a2) = true := decide_eq_true h2
   obtain rfl : b = true := by rw [← h, decide_eq_true (show x.f0 ≥ a1 from h1), decide_eq_true h2]; rfl
   clear h h1 h2
   go_enter Try.func120, Try.ntmps120
   go_wp2_with (first | ((with_reducible refine gate_dst (N := 3) rfl ?_); refine box_event ?hg (N := 3) ?hd (cs := #[.int .i64 (x.f0), .int .i64 (x.f1)]) (t := 37) ?hr ?_; (case hd => rfl); (case hg => rfl); (case hr => first | (go_simp; done) | (go_simp; rfl)); intro gb hg w8 hbox hb; have n1_ := am_ (below_step bl_ hb); have BK := am_ hbox; clear HB; have HB := n1_; clear n1_ hb hbox hg; have hcx := kp_ HB HX.out; have hcy := kp_ HB HY.out; have hcz1_0 := bc2_0 BK; have hcz1_1 := bc2_1 BK; have hfz1_0 := bf_ BK 0; have hfz1_1 := bf_ BK 1))
   go_ret
   exact ⟨rf_, bl_⟩
  ·have g2 : decide (x.f0 ≤ a2) = false := decide_eq_false h2
   obtain rfl : b = false := by rw [← h, decide_eq_false h2, Bool.and_false]
   clear h h1 h2
   go_enter Try.func120, Try.ntmps120
   go_wp2_with (first | ((with_reducible refine gate_dst (N := 3) rfl ?_); refine box_event ?hg (N := 3) ?hd (cs := #[.int .i64 (x.f0), .int .i64 (x.f1)]) (t := 37) ?hr ?_; (case hd => rfl); (case hg => rfl); (case hr => first | (go_simp; done) | (go_simp; rfl)); intro gb hg w8 hbox hb; have n1_ := am_ (below_step bl_ hb); have BK := am_ hbox; clear HB; have HB := n1_; clear n1_ hb hbox hg; have hcx := kp_ HB HX.out; have hcy := kp_ HB HY.out; have hcz1_0 := bc2_0 BK; have hcz1_1 := bc2_1 BK; have hfz1_0 := bf_ BK 0; have hfz1_1 := bf_ BK 1))
   go_ret
   exact ⟨rf_, bl_⟩
 ·have g1 : decide (a1 ≤ x.f0) = false := decide_eq_false h1
  obtain rfl : b = false := by rw [← h, decide_eq_false (show ¬ x.f0 ≥ a1 from h1), Bool.false_and]
  clear h h1
  go_enter Try.func120, Try.ntmps120
  go_wp2_with (first | ((with_reducible refine gate_dst (N := 3) rfl ?_); refine box_event ?hg (N := 3) ?hd (cs := #[.int .i64 (x.f0), .int .i64 (x.f1)]) (t := 37) ?hr ?_; (case hd => rfl); (case hg => rfl); (case hr => first | (go_simp; done) | (go_simp; rfl)); intro gb hg w8 hbox hb; have n1_ := am_ (below_step bl_ hb); have BK := am_ hbox; clear HB; have HB := n1_; clear n1_ hb hbox hg; have hcx := kp_ HB HX.out; have hcy := kp_ HB HY.out; have hcz1_0 := bc2_0 BK; have hcz1_1 := bc2_1 BK; have hfz1_0 := bf_ BK 0; have hfz1_1 := bf_ BK 1))
  go_ret
  exact ⟨rf_, bl_⟩
def impl_cut.f (k : Nat) (l0 : List (S37)) (a1 a2 : Int) : Option (List (S37)) := impl_Sample.f k (fun x => some (decide (x.f0 ≥ a1) && decide (x.f0 ≤ a2))) l0
theorem impl_cut.mono : ∀ a0 a1 a2 k, LeO (impl_cut.f k a0 a1 a2) (impl_cut.f (k + 1) a0 a1 a2) := by
 intro a0 a1 a2 k
 exact impl_Sample.mono _ _ (fun _ => LeO.refl _) a0 k
set_option maxHeartbeats 4000000 in
theorem impl_cut.calls (k : Nat) (A0 : Option Addr) (c0 : Nat) (l0 : List (S37)) (a1 : Int) (a2 : Int) (r : List (S37)) (w : World) (hr0 : Kd.C k37 w A0 l0.length l0) (hc0 : l0.length ≤ c0) (h : impl_cut.f k l0 a1 a2 = some r) :
  Calls Try.prog 80 #[.slice A0 l0.length c0, .int .i64 a1, .int .i64 a2] w fun e w' => ∃ v0_ : Value, e = .returned (v0_) ∧ Kd.R k37 37 w' w.heap.size (fun _ => True) v0_ r ∧ Below w.heap.size w w' := by
 have HR0 := am_ hr0
 clear hr0
 have HB := am_ (Below.refl w.heap.size w)
 go_enter Try.func80, Try.ntmps80
 go_wp2_with (first | ((with_reducible refine gate_dst (N := 4) rfl ?_); refine box_event ?hg (N := 4) ?hd (cs := #[.int .i64 a1]) (t := 3) ?hr ?_; (case hd => rfl); (case hg => rfl); (case hr => first | (go_simp; done) | (go_simp; rfl)); intro gb hg w8 hbox hb; have n1_ := am_ (below_step bl_ hb); have BK := am_ hbox; clear HB; have HB := n1_; clear n1_ hb hbox hg) | ((with_reducible refine gate_dst (N := 5) rfl ?_); refine box_event ?hg (N := 5) ?hd (cs := #[.int .i64 a2]) (t := 3) ?hr ?_; (case hd => rfl); (case hg => rfl); (case hr => first | (go_simp; done) | (go_simp; rfl)); intro gb2 hg w9 hbox hb; have n1_ := am_ (below_step bl_ hb); have n2_ := am_ (blk_below (g := gb) BK.out hb); have BK2 := am_ hbox; clear HB BK; have HB := n1_; have BK := n2_; clear n1_ n2_ hb hbox hg) | (go_at_call 119; refine (impl_Sample.calls k _ 120 #[.pointer (some ⟨gb, 0, none⟩), .pointer (some ⟨gb2, 0, none⟩)] (fun args w => enters_ Try.func120 (by kernel_rfl) rfl args w) A0 c0 l0 r w9 (Kd.C_below HR0.out HB.out) hc0 ?hP h).mono ?_; (case hP => intro W x b hW hx; exact impl_cut_1.calls x a1 a2 gb gb2 b W (kp_ ⟨hW⟩ (bc1_0 BK)) (kp_ ⟨hW⟩ (bc1_0 BK2)) (Option.some.inj hx)); rintro e w10 ⟨v0, rfl, ho, hb⟩; have n0_ := am_ (Kd.R_lower ho (below_size HB.out)); have n1_ := am_ (below_step HB.out hb); clear HB; have HO := n0_; have HB := n1_; clear n0_ n1_ hb ho))
 go_ret
 exact ⟨_, rf_, HO.out, bl_⟩

/-! ### impl_CutSamples: function 31 -/
def impl_CutSamples.f (k : Nat) (l0 : List (S37)) (a1 : Int) (a2 : Int) : Option ((List (S37))) := (impl_GoodSamples.f k l0).bind fun t1001 => (if t1001 = true then ((impl_cut.f k l0 a1 a2).bind fun t1002 => (some t1002)) else (some ([] : List (S37))))
theorem impl_CutSamples.mono : ∀ a0 a1 a2 k, LeO (impl_CutSamples.f k a0 a1 a2) (impl_CutSamples.f (k + 1) a0 a1 a2) := by
 intro a0 a1 a2 k
 unfold impl_CutSamples.f
 repeat' first
   | with_reducible first | exact impl_GoodSamples.mono _ _ | exact impl_cut.mono _ _ _ _ | exact LeO.refl _ | exact LeO.none _ | refine LeO.ite ?_ ?_ | refine LeO.bind ?_ (fun _ => ?_)
   | exact impl_GoodSamples.mono _ _
   | exact impl_cut.mono _ _ _ _
   | exact LeO.none _
   | refine LeO.ite ?_ ?_
   | refine LeO.bind ?_ (fun _ => ?_)
set_option maxHeartbeats 8000000 in
set_option maxRecDepth 100000 in
theorem impl_CutSamples.calls (k : Nat) (A0 : Option Addr) (c0 : Nat) (l0 : List (S37)) (a1 : Int) (a2 : Int) (r : List (S37)) (w : World) (hr0 : Kd.C k37 w A0 l0.length l0) (hc0 : l0.length ≤ c0) (h : impl_CutSamples.f k l0 a1 a2 = some r) :
  Calls Try.prog 31 #[.slice A0 l0.length c0, .int .i64 a1, .int .i64 a2] w fun e w' => ∃ v0_ : Value, e = .returned (v0_) ∧ Kd.R k37 37 w' w.heap.size (fun _ => True) v0_ r ∧ Below w.heap.size w w' := by
 have HR0 := am_ hr0
 have HC0 := am_ hc0
 clear hr0 hc0
 have HB := am_ (Below.refl w.heap.size w)
 have H : ((impl_GoodSamples.f k l0).bind fun t1001 => (if t1001 = true then ((impl_cut.f k l0 a1 a2).bind fun t1002 => (some t1002)) else (some ([] : List (S37))))) = some r := h
 clear h
 replace H := Option.bind_eq_some_iff.mp H
 obtain ⟨t1001, A40, H⟩ := H
 replace H : (if t1001 = true then ((impl_cut.f k l0 a1 a2).bind fun t1002 => (some t1002)) else (some ([] : List (S37)))) = some r := H
 have A4 := am_ A40
 clear A40
 by_cases c5 : t1001 = true
 ·subst c5
  have H1 : ((impl_cut.f k l0 a1 a2).bind fun t1002 => (some t1002)) = some r := by rw [if_pos rfl] at H; exact H
  clear H
  have H := H1
  clear H1
  replace H := Option.bind_eq_some_iff.mp H
  obtain ⟨t1002, A60, H⟩ := H
  replace H : (some t1002) = some r := H
  have A6 := am_ A60
  clear A60
  obtain rfl := Option.some.inj H
  go_enter Try.func31, Try.ntmps31
  go_wp2_with (first | ((with_reducible refine gate_callee (f := 76) rfl ?_); refine goesL_ (some 8) rfl rfl Try.func76 (by kernel_rfl) rfl #[.slice A0 l0.length c0] rfl ag_ ?_; (with_reducible refine (impl_GoodSamples.calls k _ _ l0 true _ ?side1 ?side2 A4.out).mono ?_); (case side1 => repeat (first | exact HR0.out | (with_reducible refine Kd.C_alloc ?_ _) | (with_reducible refine Kd.C_drewN ?_ _) | (with_reducible refine Kd.C_drew ?_))); (case side2 => exact HC0.out); rintro e w7 ⟨rfl, hb⟩; refine ⟨_, rfl, ?_⟩; have n0_ := am_ (below_step bl_ hb); clear HB; have HB := n0_; clear n0_; (try clear hb); (try clear hb2); (try clear hk); (try clear hi)) | ((with_reducible refine gate_callee (f := 80) rfl ?_); refine goesL_ (some 13) rfl rfl Try.func80 (by kernel_rfl) rfl #[.slice A0 l0.length c0, .int .i64 a1, .int .i64 a2] rfl ag_ ?_; (with_reducible refine (impl_cut.calls k _ _ l0 a1 a2 t1002 _ ?side1 ?side2 A6.out).mono ?_); (case side1 => exact cc_ (Kd.C_below HR0.out HB.out)); (case side2 => exact HC0.out); rintro e w8 ⟨v1003, rfl, ho0, hb⟩; refine ⟨_, rfl, ?_⟩; have n0_ := am_ (Kd.R_lower ho0 (below_size bl_)); have n1_ := am_ (below_step bl_ hb); clear HB; have HO1004 := n0_; have HB := n1_; clear n0_ n1_; (try clear hb); (try clear hb2); (try clear hk); (try clear hi); (try clear ho0)))
  go_ret
  exact ⟨_, rf_, by (with_reducible repeat (first | apply Kd.R_alloc | apply Kd.R_drewN | apply Kd.R_drew)); exact HO1004.out, bl_⟩
 ·replace c5 := Bool.eq_false_iff.mpr c5
  subst c5
  have H1 : (some ([] : List (S37))) = some r := by rw [if_neg (show ¬ (false = true) by decide)] at H; exact H
  clear H
  have H := H1
  clear H1
  obtain rfl := Option.some.inj H
  go_enter Try.func31, Try.ntmps31
  go_wp2_with (first | ((with_reducible refine gate_callee (f := 76) rfl ?_); refine goesL_ (some 8) rfl rfl Try.func76 (by kernel_rfl) rfl #[.slice A0 l0.length c0] rfl ag_ ?_; (with_reducible refine (impl_GoodSamples.calls k _ _ l0 false _ ?side1 ?side2 A4.out).mono ?_); (case side1 => repeat (first | exact HR0.out | (with_reducible refine Kd.C_alloc ?_ _) | (with_reducible refine Kd.C_drewN ?_ _) | (with_reducible refine Kd.C_drew ?_))); (case side2 => exact HC0.out); rintro e w9 ⟨rfl, hb⟩; refine ⟨_, rfl, ?_⟩; have n0_ := am_ (below_step bl_ hb); clear HB; have HB := n0_; clear n0_; (try clear hb); (try clear hb2); (try clear hk); (try clear hi)))
  go_ret
  exact ⟨_, rf_, ni_, bl_⟩

/-! ### laws_FnExactCutSamples: function 6 -/
def laws_FnExactCutSamples.j0 : Nat → List (S90) → Int → Int → List (S37) → List (S37) → Bool → Option (Bool)
 | 0, _, _, _, _, _, _ => none
 | k + 1, x0, x1, x2, x8, x10, x50 => if x50 = true then (none) else ((laws_markSampleS.f k x10 1).bind fun bt1022 => ((laws_heldSampleS.f k bt1022.2 1).bind fun t1024 => (if t1024 < 0 then (none) else (if t1024 = bt1022.1 then ((laws_toSampleS.f k x0).bind fun t1025 => ((impl_CutSamples.f k t1025 x1 x2).bind fun t1028 => ((laws_eqSampleS.f k t1028 x8).bind fun t1031 => (if t1031 = true then ((laws_heldSampleS.f k bt1022.2 1).bind fun t1032 => (if t1032 < 0 then (none) else (if t1032 = bt1022.1 then (some true) else (none)))) else (none))))) else (none)))))
def laws_FnExactCutSamples.f (k : Nat) (l0 : List (S90)) (a1 : Int) (a2 : Int) : Option (Bool) := (laws_szSampleS.f l0 1048576).bind fun t1001 => (if t1001 < 0 then (some true) else ((laws_toSampleS.f k l0).bind fun t1002 => ((spec_CutSamples.f k t1002 a1 a2).bind fun t1005 => ((laws_toSampleS.f k l0).bind fun t1008 => ((impl_CutSamples.f k t1008 a1 a2).bind fun t1011 => ((laws_eqSampleS.f k t1011 t1005).bind fun t1014 => (if t1014 = true then ((laws_toSampleS.f k l0).bind fun t1015 => ((laws_eqSampleS.f k t1008 t1015).bind fun t1018 => (if t1018 = true then ((laws_markSampleS.f k t1008 1).bind fun bt1019 => (if bt1019.1 < 0 then (laws_FnExactCutSamples.j0 k l0 a1 a2 t1005 t1011 true) else ((laws_eqSampleS.f k t1011 t1005).bind fun t1021 => (laws_FnExactCutSamples.j0 k l0 a1 a2 t1005 t1011 (!t1021))))) else (none)))) else (none))))))))
theorem laws_FnExactCutSamples.mono_l : ∀ k, (∀ y0 y1 y2 y3 y4 y5, LeO (laws_FnExactCutSamples.j0 k y0 y1 y2 y3 y4 y5) (laws_FnExactCutSamples.j0 (k + 1) y0 y1 y2 y3 y4 y5))
 | 0 => fun _ _ _ _ _ _ r h => by simp [laws_FnExactCutSamples.j0] at h
 | k + 1 => by
  have ih0 := laws_FnExactCutSamples.mono_l k
  ·intro y0 y1 y2 y3 y4 y5
   unfold laws_FnExactCutSamples.j0
   repeat' first
   | with_reducible first | exact ih0 _ _ _ _ _ _ | exact impl_CutSamples.mono _ _ _ _ | exact laws_eqSampleS.mono _ _ _ | exact laws_heldSampleS.mono _ _ _ | exact laws_markSampleS.mono _ _ _ | exact laws_toSampleS.mono _ _ | exact spec_CutSamples.mono _ _ _ _ | exact LeO.refl _ | exact LeO.none _ | refine LeO.ite ?_ ?_ | refine LeO.bind ?_ (fun _ => ?_)
   | exact ih0 _ _ _ _ _ _
   | exact impl_CutSamples.mono _ _ _ _
   | exact laws_eqSampleS.mono _ _ _
   | exact laws_heldSampleS.mono _ _ _
   | exact laws_markSampleS.mono _ _ _
   | exact laws_toSampleS.mono _ _
   | exact spec_CutSamples.mono _ _ _ _
   | exact LeO.none _
   | refine LeO.ite ?_ ?_
   | refine LeO.bind ?_ (fun _ => ?_)
theorem laws_FnExactCutSamples.mono : ∀ a0 a1 a2 k, LeO (laws_FnExactCutSamples.f k a0 a1 a2) (laws_FnExactCutSamples.f (k + 1) a0 a1 a2) := by
 intro a0 a1 a2 k
 have ih0 := laws_FnExactCutSamples.mono_l k
 unfold laws_FnExactCutSamples.f
 repeat' first
   | with_reducible first | exact ih0 _ _ _ _ _ _ | exact impl_CutSamples.mono _ _ _ _ | exact laws_eqSampleS.mono _ _ _ | exact laws_heldSampleS.mono _ _ _ | exact laws_markSampleS.mono _ _ _ | exact laws_toSampleS.mono _ _ | exact spec_CutSamples.mono _ _ _ _ | exact LeO.refl _ | exact LeO.none _ | refine LeO.ite ?_ ?_ | refine LeO.bind ?_ (fun _ => ?_)
   | exact ih0 _ _ _ _ _ _
   | exact impl_CutSamples.mono _ _ _ _
   | exact laws_eqSampleS.mono _ _ _
   | exact laws_heldSampleS.mono _ _ _
   | exact laws_markSampleS.mono _ _ _
   | exact laws_toSampleS.mono _ _
   | exact spec_CutSamples.mono _ _ _ _
   | exact LeO.none _
   | refine LeO.ite ?_ ?_
   | refine LeO.bind ?_ (fun _ => ?_)
set_option maxHeartbeats 8000000 in
set_option maxRecDepth 100000 in
theorem laws_FnExactCutSamples.calls (k : Nat) (A0 : Option Addr) (c0 : Nat) (l0 : List (S90)) (a1 : Int) (a2 : Int) (r : Bool) (w : World) (hr0 : Kd.C k90 w A0 l0.length l0) (hc0 : l0.length ≤ c0) (h : laws_FnExactCutSamples.f k l0 a1 a2 = some r) :
  Calls Try.prog 6 #[.slice A0 l0.length c0, .int .i64 a1, .int .i64 a2] w fun e w' => e = .returned (.bool r) ∧ Below w.heap.size w w' := by
 have HR0 := am_ hr0
 have HC0 := am_ hc0
 clear hr0 hc0
 have HB := am_ (Below.refl w.heap.size w)
 have H : ((laws_szSampleS.f l0 1048576).bind fun t1001 => (if t1001 < 0 then (some true) else ((laws_toSampleS.f k l0).bind fun t1002 => ((spec_CutSamples.f k t1002 a1 a2).bind fun t1005 => ((laws_toSampleS.f k l0).bind fun t1008 => ((impl_CutSamples.f k t1008 a1 a2).bind fun t1011 => ((laws_eqSampleS.f k t1011 t1005).bind fun t1014 => (if t1014 = true then ((laws_toSampleS.f k l0).bind fun t1015 => ((laws_eqSampleS.f k t1008 t1015).bind fun t1018 => (if t1018 = true then ((laws_markSampleS.f k t1008 1).bind fun bt1019 => (if bt1019.1 < 0 then (laws_FnExactCutSamples.j0 k l0 a1 a2 t1005 t1011 true) else ((laws_eqSampleS.f k t1011 t1005).bind fun t1021 => (laws_FnExactCutSamples.j0 k l0 a1 a2 t1005 t1011 (!t1021))))) else (none)))) else (none))))))))) = some r := h
 clear h
 replace H := Option.bind_eq_some_iff.mp H
 obtain ⟨t1001, A40, H⟩ := H
 replace H : (if t1001 < 0 then (some true) else ((laws_toSampleS.f k l0).bind fun t1002 => ((spec_CutSamples.f k t1002 a1 a2).bind fun t1005 => ((laws_toSampleS.f k l0).bind fun t1008 => ((impl_CutSamples.f k t1008 a1 a2).bind fun t1011 => ((laws_eqSampleS.f k t1011 t1005).bind fun t1014 => (if t1014 = true then ((laws_toSampleS.f k l0).bind fun t1015 => ((laws_eqSampleS.f k t1008 t1015).bind fun t1018 => (if t1018 = true then ((laws_markSampleS.f k t1008 1).bind fun bt1019 => (if bt1019.1 < 0 then (laws_FnExactCutSamples.j0 k l0 a1 a2 t1005 t1011 true) else ((laws_eqSampleS.f k t1011 t1005).bind fun t1021 => (laws_FnExactCutSamples.j0 k l0 a1 a2 t1005 t1011 (!t1021))))) else (none)))) else (none)))))))) = some r := H
 have A4 := am_ A40
 clear A40
 by_cases c5 : t1001 < 0
 ·rw [if_pos c5] at H
  have c5b0 : decide (t1001 < 0) = true := decide_eq_true c5
  clear c5
  obtain rfl := Option.some.inj H
  go_enter Try.func6, Try.ntmps6
  go_wp2_with (first | ((with_reducible refine gate_callee (f := 24) rfl ?_); refine goesL_ (some 17) rfl rfl Try.func24 (by kernel_rfl) rfl #[.slice A0 l0.length c0, .int .i64 1048576] rfl ag_ ?_; (with_reducible refine (laws_szSampleS.calls _ _ l0 1048576 t1001 _ ?side1 ?side2 A4.out).mono ?_); (case side1 => repeat (first | exact HR0.out | (with_reducible refine Kd.C_alloc ?_ _) | (with_reducible refine Kd.C_drewN ?_ _) | (with_reducible refine Kd.C_drew ?_))); (case side2 => exact HC0.out); rintro e w' ⟨rfl, ⟨nd, rfl⟩⟩; refine ⟨_, rfl, ?_⟩))
  go_ret
  exact ⟨rf_, bl_⟩
 ·rw [if_neg c5] at H
  have c5b0 : decide (t1001 < 0) = false := decide_eq_false c5
  clear c5
  replace H := Option.bind_eq_some_iff.mp H
  obtain ⟨t1002, A60, H⟩ := H
  replace H : ((spec_CutSamples.f k t1002 a1 a2).bind fun t1005 => ((laws_toSampleS.f k l0).bind fun t1008 => ((impl_CutSamples.f k t1008 a1 a2).bind fun t1011 => ((laws_eqSampleS.f k t1011 t1005).bind fun t1014 => (if t1014 = true then ((laws_toSampleS.f k l0).bind fun t1015 => ((laws_eqSampleS.f k t1008 t1015).bind fun t1018 => (if t1018 = true then ((laws_markSampleS.f k t1008 1).bind fun bt1019 => (if bt1019.1 < 0 then (laws_FnExactCutSamples.j0 k l0 a1 a2 t1005 t1011 true) else ((laws_eqSampleS.f k t1011 t1005).bind fun t1021 => (laws_FnExactCutSamples.j0 k l0 a1 a2 t1005 t1011 (!t1021))))) else (none)))) else (none)))))) = some r := H
  have A6 := am_ A60
  clear A60
  replace H := Option.bind_eq_some_iff.mp H
  obtain ⟨t1005, A70, H⟩ := H
  replace H : ((laws_toSampleS.f k l0).bind fun t1008 => ((impl_CutSamples.f k t1008 a1 a2).bind fun t1011 => ((laws_eqSampleS.f k t1011 t1005).bind fun t1014 => (if t1014 = true then ((laws_toSampleS.f k l0).bind fun t1015 => ((laws_eqSampleS.f k t1008 t1015).bind fun t1018 => (if t1018 = true then ((laws_markSampleS.f k t1008 1).bind fun bt1019 => (if bt1019.1 < 0 then (laws_FnExactCutSamples.j0 k l0 a1 a2 t1005 t1011 true) else ((laws_eqSampleS.f k t1011 t1005).bind fun t1021 => (laws_FnExactCutSamples.j0 k l0 a1 a2 t1005 t1011 (!t1021))))) else (none)))) else (none))))) = some r := H
  have A7 := am_ A70
  clear A70
  replace H := Option.bind_eq_some_iff.mp H
  obtain ⟨t1008, A80, H⟩ := H
  replace H : ((impl_CutSamples.f k t1008 a1 a2).bind fun t1011 => ((laws_eqSampleS.f k t1011 t1005).bind fun t1014 => (if t1014 = true then ((laws_toSampleS.f k l0).bind fun t1015 => ((laws_eqSampleS.f k t1008 t1015).bind fun t1018 => (if t1018 = true then ((laws_markSampleS.f k t1008 1).bind fun bt1019 => (if bt1019.1 < 0 then (laws_FnExactCutSamples.j0 k l0 a1 a2 t1005 t1011 true) else ((laws_eqSampleS.f k t1011 t1005).bind fun t1021 => (laws_FnExactCutSamples.j0 k l0 a1 a2 t1005 t1011 (!t1021))))) else (none)))) else (none)))) = some r := H
  have A8 := am_ A80
  clear A80
  replace H := Option.bind_eq_some_iff.mp H
  obtain ⟨t1011, A90, H⟩ := H
  replace H : ((laws_eqSampleS.f k t1011 t1005).bind fun t1014 => (if t1014 = true then ((laws_toSampleS.f k l0).bind fun t1015 => ((laws_eqSampleS.f k t1008 t1015).bind fun t1018 => (if t1018 = true then ((laws_markSampleS.f k t1008 1).bind fun bt1019 => (if bt1019.1 < 0 then (laws_FnExactCutSamples.j0 k l0 a1 a2 t1005 t1011 true) else ((laws_eqSampleS.f k t1011 t1005).bind fun t1021 => (laws_FnExactCutSamples.j0 k l0 a1 a2 t1005 t1011 (!t1021))))) else (none)))) else (none))) = some r := H
  have A9 := am_ A90
  clear A90
  replace H := Option.bind_eq_some_iff.mp H
  obtain ⟨t1014, A100, H⟩ := H
  replace H : (if t1014 = true then ((laws_toSampleS.f k l0).bind fun t1015 => ((laws_eqSampleS.f k t1008 t1015).bind fun t1018 => (if t1018 = true then ((laws_markSampleS.f k t1008 1).bind fun bt1019 => (if bt1019.1 < 0 then (laws_FnExactCutSamples.j0 k l0 a1 a2 t1005 t1011 true) else ((laws_eqSampleS.f k t1011 t1005).bind fun t1021 => (laws_FnExactCutSamples.j0 k l0 a1 a2 t1005 t1011 (!t1021))))) else (none)))) else (none)) = some r := H
  have A10 := am_ A100
  clear A100
  by_cases c11 : t1014 = true
  ·subst c11
   have H1 : ((laws_toSampleS.f k l0).bind fun t1015 => ((laws_eqSampleS.f k t1008 t1015).bind fun t1018 => (if t1018 = true then ((laws_markSampleS.f k t1008 1).bind fun bt1019 => (if bt1019.1 < 0 then (laws_FnExactCutSamples.j0 k l0 a1 a2 t1005 t1011 true) else ((laws_eqSampleS.f k t1011 t1005).bind fun t1021 => (laws_FnExactCutSamples.j0 k l0 a1 a2 t1005 t1011 (!t1021))))) else (none)))) = some r := by rw [if_pos rfl] at H; exact H
   clear H
   have H := H1
   clear H1
   replace H := Option.bind_eq_some_iff.mp H
   obtain ⟨t1015, A120, H⟩ := H
   replace H : ((laws_eqSampleS.f k t1008 t1015).bind fun t1018 => (if t1018 = true then ((laws_markSampleS.f k t1008 1).bind fun bt1019 => (if bt1019.1 < 0 then (laws_FnExactCutSamples.j0 k l0 a1 a2 t1005 t1011 true) else ((laws_eqSampleS.f k t1011 t1005).bind fun t1021 => (laws_FnExactCutSamples.j0 k l0 a1 a2 t1005 t1011 (!t1021))))) else (none))) = some r := H
   have A12 := am_ A120
   clear A120
   replace H := Option.bind_eq_some_iff.mp H
   obtain ⟨t1018, A130, H⟩ := H
   replace H : (if t1018 = true then ((laws_markSampleS.f k t1008 1).bind fun bt1019 => (if bt1019.1 < 0 then (laws_FnExactCutSamples.j0 k l0 a1 a2 t1005 t1011 true) else ((laws_eqSampleS.f k t1011 t1005).bind fun t1021 => (laws_FnExactCutSamples.j0 k l0 a1 a2 t1005 t1011 (!t1021))))) else (none)) = some r := H
   have A13 := am_ A130
   clear A130
   by_cases c14 : t1018 = true
   ·subst c14
    have H1 : ((laws_markSampleS.f k t1008 1).bind fun bt1019 => (if bt1019.1 < 0 then (laws_FnExactCutSamples.j0 k l0 a1 a2 t1005 t1011 true) else ((laws_eqSampleS.f k t1011 t1005).bind fun t1021 => (laws_FnExactCutSamples.j0 k l0 a1 a2 t1005 t1011 (!t1021))))) = some r := by rw [if_pos rfl] at H; exact H
    clear H
    have H := H1
    clear H1
    replace H := Option.bind_eq_some_iff.mp H
    obtain ⟨⟨t1019, t1020⟩, A150, H⟩ := H
    replace H : (if t1019 < 0 then (laws_FnExactCutSamples.j0 k l0 a1 a2 t1005 t1011 true) else ((laws_eqSampleS.f k t1011 t1005).bind fun t1021 => (laws_FnExactCutSamples.j0 k l0 a1 a2 t1005 t1011 (!t1021)))) = some r := H
    have A15 := am_ A150
    clear A150
    have HC16 := am_ H
    clear H
    go_enter Try.func6, Try.ntmps6
    go_upto_region 14 with (first | ((with_reducible refine gate_callee (f := 24) rfl ?_); refine goesL_ (some 17) rfl rfl Try.func24 (by kernel_rfl) rfl #[.slice A0 l0.length c0, .int .i64 1048576] rfl ag_ ?_; (with_reducible refine (laws_szSampleS.calls _ _ l0 1048576 t1001 _ ?side1 ?side2 A4.out).mono ?_); (case side1 => repeat (first | exact HR0.out | (with_reducible refine Kd.C_alloc ?_ _) | (with_reducible refine Kd.C_drewN ?_ _) | (with_reducible refine Kd.C_drew ?_))); (case side2 => exact HC0.out); rintro e w' ⟨rfl, ⟨nd, rfl⟩⟩; refine ⟨_, rfl, ?_⟩) | ((with_reducible refine gate_callee (f := 26) rfl ?_); refine goesL_ (some 21) rfl rfl Try.func26 (by kernel_rfl) rfl #[.slice A0 l0.length c0] rfl ag_ ?_; (with_reducible refine (laws_toSampleS.calls k _ _ l0 t1002 _ ?side1 ?side2 A6.out).mono ?_); (case side1 => repeat (first | exact HR0.out | (with_reducible refine Kd.C_alloc ?_ _) | (with_reducible refine Kd.C_drewN ?_ _) | (with_reducible refine Kd.C_drew ?_))); (case side2 => exact HC0.out); rintro e w17 ⟨v1003, rfl, ho0, hb⟩; refine ⟨_, rfl, ?_⟩; have n0_ := am_ (Kd.R_lower ho0 (below_size bl_)); have n1_ := am_ (below_step bl_ hb); clear HB; have HO1004 := n0_; have HB := n1_; clear n0_ n1_; (try clear hb); (try clear hb2); (try clear hk); (try clear hi); (try clear ho0); obtain ⟨Ao18, co18, eo18⟩ := Kd.R_slice HO1004.out; subst eo18) | ((with_reducible refine gate_callee (f := 30) rfl ?_); refine goesL_ (some 24) rfl rfl Try.func30 (by kernel_rfl) rfl #[.slice Ao18 t1002.length co18, .int .i64 a1, .int .i64 a2] rfl ag_ ?_; (with_reducible refine (spec_CutSamples.calls k _ _ t1002 a1 a2 t1005 _ ?side1 ?side2 A7.out).mono ?_); (case side1 => exact cc_ (Kd.R_reads' HO1004.out).2.2); (case side2 => exact (Kd.R_reads' HO1004.out).2.1); rintro e w19 ⟨v1006, rfl, ho0, hb⟩; refine ⟨_, rfl, ?_⟩; have n0_ := am_ (Kd.R_elder' (ro_ HO1004) (Kd.R_base ho0) hb); have n1_ := am_ (Kd.R_lower (Kd.R_new' ho0 (Kd.R_lt (ro_ HO1004))) (below_size bl_)); have n2_ := am_ (below_step bl_ hb); clear HO1004; clear HB; have HO1004 := n0_; have HO1007 := n1_; have HB := n2_; clear n0_ n1_ n2_; (try clear hb); (try clear hb2); (try clear hk); (try clear hi); (try clear ho0)) | ((with_reducible refine gate_callee (f := 26) rfl ?_); refine goesL_ (some 26) rfl rfl Try.func26 (by kernel_rfl) rfl #[.slice A0 l0.length c0] rfl ag_ ?_; (with_reducible refine (laws_toSampleS.calls k _ _ l0 t1008 _ ?side1 ?side2 A8.out).mono ?_); (case side1 => exact cc_ (Kd.C_below HR0.out HB.out)); (case side2 => exact HC0.out); rintro e w20 ⟨v1009, rfl, ho0, hb⟩; refine ⟨_, rfl, ?_⟩; have n0_ := am_ (Kd.R_elder' (ro_ HO1004) (Kd.R_base ho0) hb); have n1_ := am_ (Kd.R_elder' (ro_ HO1007) (Kd.R_base ho0) hb); have n2_ := am_ (Kd.R_lower (Kd.R_new' (Kd.R_new' ho0 (Kd.R_lt (ro_ HO1004))) (Kd.R_lt (ro_ HO1007))) (below_size bl_)); have n3_ := am_ (below_step bl_ hb); clear HO1004; clear HO1007; clear HB; have HO1004 := n0_; have HO1007 := n1_; have HO1010 := n2_; have HB := n3_; clear n0_ n1_ n2_ n3_; (try clear hb); (try clear hb2); (try clear hk); (try clear hi); (try clear ho0); obtain ⟨Ao21, co21, eo21⟩ := Kd.R_slice HO1010.out; subst eo21) | ((with_reducible refine gate_callee (f := 31) rfl ?_); refine goesL_ (some 30) rfl rfl Try.func31 (by kernel_rfl) rfl #[.slice Ao21 t1008.length co21, .int .i64 a1, .int .i64 a2] rfl ag_ ?_; (with_reducible refine (impl_CutSamples.calls k _ _ t1008 a1 a2 t1011 _ ?side1 ?side2 A9.out).mono ?_); (case side1 => exact cc_ (Kd.R_reads' HO1010.out).2.2); (case side2 => exact (Kd.R_reads' HO1010.out).2.1); rintro e w22 ⟨v1012, rfl, ho0, hb⟩; refine ⟨_, rfl, ?_⟩; have n0_ := am_ (Kd.R_elder' (ro_ HO1004) (Kd.R_base ho0) hb); have n1_ := am_ (Kd.R_elder' (ro_ HO1007) (Kd.R_base ho0) hb); have n2_ := am_ (Kd.R_elder' (ro_ HO1010) (Kd.R_base ho0) hb); have n3_ := am_ (Kd.R_lower (Kd.R_new' (Kd.R_new' (Kd.R_new' ho0 (Kd.R_lt (ro_ HO1004))) (Kd.R_lt (ro_ HO1007))) (Kd.R_lt (ro_ HO1010))) (below_size bl_)); have n4_ := am_ (below_step bl_ hb); clear HO1004; clear HO1007; clear HO1010; clear HB; have HO1004 := n0_; have HO1007 := n1_; have HO1010 := n2_; have HO1013 := n3_; have HB := n4_; clear n0_ n1_ n2_ n3_ n4_; (try clear hb); (try clear hb2); (try clear hk); (try clear hi); (try clear ho0); obtain ⟨Ao23, co23, eo23⟩ := Kd.R_slice HO1013.out; subst eo23; obtain ⟨Ao24, co24, eo24⟩ := Kd.R_slice HO1007.out; subst eo24) | ((with_reducible refine gate_callee (f := 29) rfl ?_); refine goesL_ (some 33) rfl rfl Try.func29 (by kernel_rfl) rfl #[.slice Ao23 t1011.length co23, .slice Ao24 t1005.length co24] rfl ag_ ?_; (with_reducible refine (laws_eqSampleS.calls k _ _ t1011 _ _ t1005 true _ ?side1 ?side2 ?side3 ?side4 A10.out).mono ?_); (case side1 => exact cc_ (Kd.R_reads' HO1013.out).2.2); (case side2 => exact (Kd.R_reads' HO1013.out).2.1); (case side3 => exact cc_ (Kd.R_reads' HO1007.out).2.2); (case side4 => exact (Kd.R_reads' HO1007.out).2.1); rintro e w25 ⟨rfl, hb⟩; refine ⟨_, rfl, ?_⟩; have n0_ := am_ (Kd.R_below (ro_ HO1004) hb); have n1_ := am_ (Kd.R_below (ro_ HO1007) hb); have n2_ := am_ (Kd.R_below (ro_ HO1010) hb); have n3_ := am_ (Kd.R_below (ro_ HO1013) hb); have n4_ := am_ (below_step bl_ hb); clear HO1004; clear HO1007; clear HO1010; clear HO1013; clear HB; have HO1004 := n0_; have HO1007 := n1_; have HO1010 := n2_; have HO1013 := n3_; have HB := n4_; clear n0_ n1_ n2_ n3_ n4_; (try clear hb); (try clear hb2); (try clear hk); (try clear hi)) | ((with_reducible refine gate_callee (f := 26) rfl ?_); refine goesL_ (some 37) rfl rfl Try.func26 (by kernel_rfl) rfl #[.slice A0 l0.length c0] rfl ag_ ?_; (with_reducible refine (laws_toSampleS.calls k _ _ l0 t1015 _ ?side1 ?side2 A12.out).mono ?_); (case side1 => exact cc_ (Kd.C_below HR0.out HB.out)); (case side2 => exact HC0.out); rintro e w26 ⟨v1016, rfl, ho0, hb⟩; refine ⟨_, rfl, ?_⟩; have n0_ := am_ (Kd.R_elder' (ro_ HO1004) (Kd.R_base ho0) hb); have n1_ := am_ (Kd.R_elder' (ro_ HO1007) (Kd.R_base ho0) hb); have n2_ := am_ (Kd.R_elder' (ro_ HO1010) (Kd.R_base ho0) hb); have n3_ := am_ (Kd.R_elder' (ro_ HO1013) (Kd.R_base ho0) hb); have n4_ := am_ (Kd.R_lower (Kd.R_new' (Kd.R_new' (Kd.R_new' (Kd.R_new' ho0 (Kd.R_lt (ro_ HO1004))) (Kd.R_lt (ro_ HO1007))) (Kd.R_lt (ro_ HO1010))) (Kd.R_lt (ro_ HO1013))) (below_size bl_)); have n5_ := am_ (below_step bl_ hb); clear HO1004; clear HO1007; clear HO1010; clear HO1013; clear HB; have HO1004 := n0_; have HO1007 := n1_; have HO1010 := n2_; have HO1013 := n3_; have HO1017 := n4_; have HB := n5_; clear n0_ n1_ n2_ n3_ n4_ n5_; (try clear hb); (try clear hb2); (try clear hk); (try clear hi); (try clear ho0); obtain ⟨Ao27, co27, eo27⟩ := Kd.R_slice HO1017.out; subst eo27) | ((with_reducible refine gate_callee (f := 29) rfl ?_); refine goesL_ (some 38) rfl rfl Try.func29 (by kernel_rfl) rfl #[.slice Ao21 t1008.length co21, .slice Ao27 t1015.length co27] rfl ag_ ?_; (with_reducible refine (laws_eqSampleS.calls k _ _ t1008 _ _ t1015 true _ ?side1 ?side2 ?side3 ?side4 A13.out).mono ?_); (case side1 => exact cc_ (Kd.R_reads' HO1010.out).2.2); (case side2 => exact (Kd.R_reads' HO1010.out).2.1); (case side3 => exact cc_ (Kd.R_reads' HO1017.out).2.2); (case side4 => exact (Kd.R_reads' HO1017.out).2.1); rintro e w28 ⟨rfl, hb⟩; refine ⟨_, rfl, ?_⟩; have n0_ := am_ (Kd.R_below (ro_ HO1004) hb); have n1_ := am_ (Kd.R_below (ro_ HO1007) hb); have n2_ := am_ (Kd.R_below (ro_ HO1010) hb); have n3_ := am_ (Kd.R_below (ro_ HO1013) hb); have n4_ := am_ (Kd.R_below (ro_ HO1017) hb); have n5_ := am_ (below_step bl_ hb); clear HO1004; clear HO1007; clear HO1010; clear HO1013; clear HO1017; clear HB; have HO1004 := n0_; have HO1007 := n1_; have HO1010 := n2_; have HO1013 := n3_; have HO1017 := n4_; have HB := n5_; clear n0_ n1_ n2_ n3_ n4_ n5_; (try clear hb); (try clear hb2); (try clear hk); (try clear hi)) | ((with_reducible refine gate_callee (f := 32) rfl ?_); refine goesL_ (some 42) rfl rfl Try.func32 (by kernel_rfl) rfl #[.slice Ao21 t1008.length co21, .int .i64 1] rfl ag_ ?_; (with_reducible refine (laws_markSampleS.calls k (fun k_ => some k_ = (.slice Ao21 t1008.length co21 : Value).ownBlock) (.slice Ao21 t1008.length co21) t1008 1 t1019 t1020 w _ ?side1 ?side2 A15.out).mono ?_); (case side1 => repeat (first | (with_reducible first | exact HB.out | apply below_alloc | apply pw_below_drewN | apply below_drew1) | exact HB.out)); (case side2 => exact Kd.R_tight rfl HO1010.out); rintro e w29 ⟨rfl, hy0, hb, hkp⟩; refine ⟨_, rfl, ?_⟩; have n0_ := am_ (Kd.R_mono (ok' := fun k_ => some k_ ≠ (.slice Ao24 t1005.length co24 : Value).ownBlock ∧ some k_ ≠ (.slice Ao21 t1008.length co21 : Value).ownBlock ∧ some k_ ≠ (.slice Ao23 t1011.length co23 : Value).ownBlock ∧ some k_ ≠ (.slice Ao27 t1015.length co27 : Value).ownBlock) (Kd.R_keptB (HO1004.out) hkp (fun k_ hk_ hs_ => (hk_.1.1.2) hs_)) (fun k_ hk_ => ⟨hk_.1.1.1.1.2, hk_.1.1.1.2, hk_.1.1.2, hk_.1.2⟩)); have n1_ := am_ (Kd.R_mono (ok' := fun k_ => some k_ ≠ (.slice Ao18 t1002.length co18 : Value).ownBlock ∧ some k_ ≠ (.slice Ao21 t1008.length co21 : Value).ownBlock ∧ some k_ ≠ (.slice Ao23 t1011.length co23 : Value).ownBlock ∧ some k_ ≠ (.slice Ao27 t1015.length co27 : Value).ownBlock) (Kd.R_keptB (HO1007.out) hkp (fun k_ hk_ hs_ => (hk_.1.1.2) hs_)) (fun k_ hk_ => ⟨hk_.1.1.1.1.2, hk_.1.1.1.2, hk_.1.1.2, hk_.1.2⟩)); have n2_ := am_ (Kd.R_reok rfl hy0 (fun k_ e_ => HO1010.out.1 k_ e_)); have n3_ := am_ (Kd.R_mono (ok' := fun k_ => some k_ ≠ (.slice Ao18 t1002.length co18 : Value).ownBlock ∧ some k_ ≠ (.slice Ao24 t1005.length co24 : Value).ownBlock ∧ some k_ ≠ (.slice Ao21 t1008.length co21 : Value).ownBlock ∧ some k_ ≠ (.slice Ao27 t1015.length co27 : Value).ownBlock) (Kd.R_keptB (HO1013.out) hkp (fun k_ hk_ hs_ => (hk_.1.2) hs_)) (fun k_ hk_ => ⟨hk_.1.1.1.1.2, hk_.1.1.1.2, hk_.1.1.2, hk_.1.2⟩)); have n4_ := am_ (Kd.R_mono (ok' := fun k_ => some k_ ≠ (.slice Ao18 t1002.length co18 : Value).ownBlock ∧ some k_ ≠ (.slice Ao24 t1005.length co24 : Value).ownBlock ∧ some k_ ≠ (.slice Ao21 t1008.length co21 : Value).ownBlock ∧ some k_ ≠ (.slice Ao23 t1011.length co23 : Value).ownBlock) (Kd.R_keptB (HO1017.out) hkp (fun k_ hk_ hs_ => (hk_.1.2) hs_)) (fun k_ hk_ => ⟨hk_.1.1.1.1.2, hk_.1.1.1.2, hk_.1.1.2, hk_.1.2⟩)); have n5_ := am_ (hb); clear HO1004; clear HO1007; clear HO1010; clear HO1013; clear HO1017; clear HB; have HO1004 := n0_; have HO1007 := n1_; have HO1010 := n2_; have HO1013 := n3_; have HO1017 := n4_; have HB := n5_; clear n0_ n1_ n2_ n3_ n4_ n5_; (try clear hb); (try clear hkp); (try clear hy0)))
    (try simp only [Act.put, List.setIfInBounds_toArray, List.set_cons_zero, List.set_cons_succ])
    go_cut [50] (fun v50 wc => ∃ (kq : Nat) (x50_15 : Bool), v50 = .bool x50_15 ∧ Aside0 (laws_FnExactCutSamples.j0 kq l0 a1 a2 t1005 t1011 x50_15 = some r) ∧ Aside0 (kq ≤ k) ∧ Aside0 (Kd.R k37 37 wc w.heap.size (fun k_ => some k_ ≠ ((.slice Ao23 t1011.length co23) : Value).ownBlock) (.slice Ao24 t1005.length co24) t1005) ∧ Aside0 (Kd.R k37 37 wc w.heap.size (fun k_ => some k_ ≠ ((.slice Ao24 t1005.length co24) : Value).ownBlock) (.slice Ao23 t1011.length co23) t1011) ∧ Aside0 (Below w.heap.size w wc))
    case first =>
     have H := HC16.out
     clear HC16
     by_cases c30 : t1019 < 0
     ·rw [if_pos c30] at H
      have c30b0 : decide (t1019 < 0) = true := decide_eq_true c30
      clear c30
      (first | rw [c30b0] | (simp only [i64_w, i32_w]; rw [c30b0]) | skip)
      have H' := am_ H
      clear H
      go_wp2
      go_meet
      case rel => exact ⟨_, (true), rs_, H', ⟨by first | omega | exact Nat.le_refl _⟩, ⟨by (with_reducible repeat (first | apply Kd.R_alloc | apply Kd.R_drewN | apply Kd.R_drew)); exact Kd.R_mono HO1007.out (fun _ hk => hk.2.2.1)⟩, ⟨by (with_reducible repeat (first | apply Kd.R_alloc | apply Kd.R_drewN | apply Kd.R_drew)); exact Kd.R_mono HO1013.out (fun _ hk => hk.2.1)⟩, ⟨bl_⟩⟩
     ·rw [if_neg c30] at H
      have c30b0 : decide (t1019 < 0) = false := decide_eq_false c30
      clear c30
      (first | rw [c30b0] | (simp only [i64_w, i32_w]; rw [c30b0]) | skip)
      replace H := Option.bind_eq_some_iff.mp H
      obtain ⟨t1021, A310, H⟩ := H
      replace H : (laws_FnExactCutSamples.j0 k l0 a1 a2 t1005 t1011 (!t1021)) = some r := H
      have A31 := am_ A310
      clear A310
      have H' := am_ H
      clear H
      go_wp2_with (first | (go_at_call 29; (with_reducible refine (laws_eqSampleS.calls k _ _ t1011 _ _ t1005 t1021 _ ?side1 ?side2 ?side3 ?side4 A31.out).mono ?_); (case side1 => exact cc_ (Kd.R_reads' HO1013.out).2.2); (case side2 => exact (Kd.R_reads' HO1013.out).2.1); (case side3 => exact cc_ (Kd.R_reads' HO1007.out).2.2); (case side4 => exact (Kd.R_reads' HO1007.out).2.1); rintro e w32 ⟨rfl, hb⟩; have n0_ := am_ (Kd.R_below (ro_ HO1004) hb); have n1_ := am_ (Kd.R_below (ro_ HO1007) hb); have n2_ := am_ (Kd.R_below (ro_ HO1010) hb); have n3_ := am_ (Kd.R_below (ro_ HO1013) hb); have n4_ := am_ (Kd.R_below (ro_ HO1017) hb); have n5_ := am_ (below_step bl_ hb); clear HO1004; clear HO1007; clear HO1010; clear HO1013; clear HO1017; clear HB; have HO1004 := n0_; have HO1007 := n1_; have HO1010 := n2_; have HO1013 := n3_; have HO1017 := n4_; have HB := n5_; clear n0_ n1_ n2_ n3_ n4_ n5_; (try clear hb); (try clear hb2); (try clear hk); (try clear hi)))
      go_meet
      case rel => exact ⟨_, (!t1021), rs_, H', ⟨by first | omega | exact Nat.le_refl _⟩, ⟨by (with_reducible repeat (first | apply Kd.R_alloc | apply Kd.R_drewN | apply Kd.R_drew)); exact Kd.R_mono HO1007.out (fun _ hk => hk.2.2.1)⟩, ⟨by (with_reducible repeat (first | apply Kd.R_alloc | apply Kd.R_drewN | apply Kd.R_drew)); exact Kd.R_mono HO1013.out (fun _ hk => hk.2.1)⟩, ⟨bl_⟩⟩
    case rest =>
     clear HC16
     try clear c1
     try clear c2
     try clear p2
     try clear c3
     try clear c5
     try clear c5b0
     try clear c6
     try clear c11
     try clear c14
     try clear c24
     try clear c26
     try clear c29
     try clear c30
     try clear c30b0
     try clear c31
     try clear c32
     obtain ⟨kq, x50_15, rfl, HA, HJ15, HO_8, HO_10, HB⟩ := hcut
     cases kq with
     | zero => exact absurd HA.out (by simp [laws_FnExactCutSamples.j0])
     | succ kj15 =>
      have H := HA.out
      clear HA
      simp only [laws_FnExactCutSamples.j0] at H
      by_cases c33 : x50_15 = true
      ·subst c33
       have H1 : (none) = some r := by rw [if_pos rfl] at H; exact H
       clear H
       have H := H1
       clear H1
       exact absurd H (by simp)
      ·replace c33 := Bool.eq_false_iff.mpr c33
       subst c33
       have H1 : ((laws_markSampleS.f kj15 t1011 1).bind fun bt1022 => ((laws_heldSampleS.f kj15 bt1022.2 1).bind fun t1024 => (if t1024 < 0 then (none) else (if t1024 = bt1022.1 then ((laws_toSampleS.f kj15 l0).bind fun t1025 => ((impl_CutSamples.f kj15 t1025 a1 a2).bind fun t1028 => ((laws_eqSampleS.f kj15 t1028 t1005).bind fun t1031 => (if t1031 = true then ((laws_heldSampleS.f kj15 bt1022.2 1).bind fun t1032 => (if t1032 < 0 then (none) else (if t1032 = bt1022.1 then (some true) else (none)))) else (none))))) else (none))))) = some r := by rw [if_neg (show ¬ (false = true) by decide)] at H; exact H
       clear H
       have H := H1
       clear H1
       replace H := Option.bind_eq_some_iff.mp H
       obtain ⟨⟨t1022, t1023⟩, A340, H⟩ := H
       replace H : ((laws_heldSampleS.f kj15 t1023 1).bind fun t1024 => (if t1024 < 0 then (none) else (if t1024 = t1022 then ((laws_toSampleS.f kj15 l0).bind fun t1025 => ((impl_CutSamples.f kj15 t1025 a1 a2).bind fun t1028 => ((laws_eqSampleS.f kj15 t1028 t1005).bind fun t1031 => (if t1031 = true then ((laws_heldSampleS.f kj15 t1023 1).bind fun t1032 => (if t1032 < 0 then (none) else (if t1032 = t1022 then (some true) else (none)))) else (none))))) else (none)))) = some r := H
       have A34 := am_ A340
       clear A340
       replace H := Option.bind_eq_some_iff.mp H
       obtain ⟨t1024, A350, H⟩ := H
       replace H : (if t1024 < 0 then (none) else (if t1024 = t1022 then ((laws_toSampleS.f kj15 l0).bind fun t1025 => ((impl_CutSamples.f kj15 t1025 a1 a2).bind fun t1028 => ((laws_eqSampleS.f kj15 t1028 t1005).bind fun t1031 => (if t1031 = true then ((laws_heldSampleS.f kj15 t1023 1).bind fun t1032 => (if t1032 < 0 then (none) else (if t1032 = t1022 then (some true) else (none)))) else (none))))) else (none))) = some r := H
       have A35 := am_ A350
       clear A350
       by_cases c36 : t1024 < 0
       ·rw [if_pos c36] at H
        exact absurd H (by simp)
       ·rw [if_neg c36] at H
        have c36b0 : decide (t1024 < 0) = false := decide_eq_false c36
        clear c36
        by_cases c37 : t1024 = t1022
        ·rw [if_pos c37] at H
         have c37b0 : (t1024 == t1022) = true := beq_iff_eq.mpr c37
         have c37b1 : (t1024 != t1022) = false := bne_eq_false_iff_eq.mpr c37
         clear c37
         replace H := Option.bind_eq_some_iff.mp H
         obtain ⟨t1025, A380, H⟩ := H
         replace H : ((impl_CutSamples.f kj15 t1025 a1 a2).bind fun t1028 => ((laws_eqSampleS.f kj15 t1028 t1005).bind fun t1031 => (if t1031 = true then ((laws_heldSampleS.f kj15 t1023 1).bind fun t1032 => (if t1032 < 0 then (none) else (if t1032 = t1022 then (some true) else (none)))) else (none)))) = some r := H
         have A38 := am_ A380
         clear A380
         replace H := Option.bind_eq_some_iff.mp H
         obtain ⟨t1028, A390, H⟩ := H
         replace H : ((laws_eqSampleS.f kj15 t1028 t1005).bind fun t1031 => (if t1031 = true then ((laws_heldSampleS.f kj15 t1023 1).bind fun t1032 => (if t1032 < 0 then (none) else (if t1032 = t1022 then (some true) else (none)))) else (none))) = some r := H
         have A39 := am_ A390
         clear A390
         replace H := Option.bind_eq_some_iff.mp H
         obtain ⟨t1031, A400, H⟩ := H
         replace H : (if t1031 = true then ((laws_heldSampleS.f kj15 t1023 1).bind fun t1032 => (if t1032 < 0 then (none) else (if t1032 = t1022 then (some true) else (none)))) else (none)) = some r := H
         have A40 := am_ A400
         clear A400
         by_cases c41 : t1031 = true
         ·subst c41
          have H1 : ((laws_heldSampleS.f kj15 t1023 1).bind fun t1032 => (if t1032 < 0 then (none) else (if t1032 = t1022 then (some true) else (none)))) = some r := by rw [if_pos rfl] at H; exact H
          clear H
          have H := H1
          clear H1
          replace H := Option.bind_eq_some_iff.mp H
          obtain ⟨t1032, A420, H⟩ := H
          replace H : (if t1032 < 0 then (none) else (if t1032 = t1022 then (some true) else (none))) = some r := H
          have A42 := am_ A420
          clear A420
          by_cases c43 : t1032 < 0
          ·rw [if_pos c43] at H
           exact absurd H (by simp)
          ·rw [if_neg c43] at H
           have c43b0 : decide (t1032 < 0) = false := decide_eq_false c43
           clear c43
           by_cases c44 : t1032 = t1022
           ·rw [if_pos c44] at H
            have c44b0 : (t1032 == t1022) = true := beq_iff_eq.mpr c44
            have c44b1 : (t1032 != t1022) = false := bne_eq_false_iff_eq.mpr c44
            clear c44
            obtain rfl := Option.some.inj H
            go_wp2_with (first | ((with_reducible refine gate_callee (f := 32) rfl ?_); refine goesL_ (some 53) rfl rfl Try.func32 (by kernel_rfl) rfl #[.slice Ao23 t1011.length co23, .int .i64 1] rfl ag_ ?_; (with_reducible refine (laws_markSampleS.calls kj15 (fun k_ => some k_ = (.slice Ao23 t1011.length co23 : Value).ownBlock) (.slice Ao23 t1011.length co23) t1011 1 t1022 t1023 w _ ?side1 ?side2 A34.out).mono ?_); (case side1 => repeat (first | (with_reducible first | exact HB.out | apply below_alloc | apply pw_below_drewN | apply below_drew1) | exact HB.out)); (case side2 => exact Kd.R_tight rfl HO_10.out); rintro e w45 ⟨rfl, hy0, hb, hkp⟩; refine ⟨_, rfl, ?_⟩; have n0_ := am_ (Kd.R_mono (ok' := fun k_ => some k_ ≠ (.slice Ao23 t1011.length co23 : Value).ownBlock) (Kd.R_keptB (HO_8.out) hkp (fun k_ hk_ hs_ => (hk_) hs_)) (fun k_ hk_ => hk_.1)); have n1_ := am_ (Kd.R_reok rfl hy0 (fun k_ e_ => HO_10.out.1 k_ e_)); have n2_ := am_ (hb); clear HO_8; clear HO_10; clear HB; have HO_8 := n0_; have HO_10 := n1_; have HB := n2_; clear n0_ n1_ n2_; (try clear hb); (try clear hkp); (try clear hy0)) | ((with_reducible refine gate_callee (f := 33) rfl ?_); refine goesL_ (some 56) rfl rfl Try.func33 (by kernel_rfl) rfl #[.slice Ao23 t1023.length co23, .int .i64 1] rfl (by (try simp only [List.map_toArray, List.map_cons, List.map_nil]); first | done | (rw [show t1023.length = t1011.length from (Kd.R_reads' HO_10.out).1.symm] <;> rfl) | rfl | (simp only [List.length_drop, List.length_take]; rfl)) ?_; (with_reducible refine (laws_heldSampleS.calls kj15 _ _ t1023 1 t1024 _ ?side1 ?side2 A35.out).mono ?_); (case side1 => exact cc_ (Kd.R_reads' HO_10.out).2.2); (case side2 => rw [show t1023.length = t1011.length from (Kd.R_reads' HO_10.out).1.symm]; exact (Kd.R_reads' HO_10.out).2.1); rintro e w' ⟨rfl, ⟨nd, rfl⟩⟩; refine ⟨_, rfl, ?_⟩) | ((with_reducible refine gate_callee (f := 26) rfl ?_); refine goesL_ (some 63) rfl rfl Try.func26 (by kernel_rfl) rfl #[.slice A0 l0.length c0] rfl ag_ ?_; (with_reducible refine (laws_toSampleS.calls kj15 _ _ l0 t1025 _ ?side1 ?side2 A38.out).mono ?_); (case side1 => exact cc_ (Kd.C_below HR0.out bl_)); (case side2 => exact HC0.out); rintro e w46 ⟨v1026, rfl, ho0, hb⟩; refine ⟨_, rfl, ?_⟩; have n0_ := am_ (Kd.R_elder' (ro_ HO_8) (Kd.R_base ho0) hb); have n1_ := am_ (Kd.R_elder' (ro_ HO_10) (Kd.R_base ho0) hb); have n2_ := am_ (Kd.R_lower (Kd.R_new' (Kd.R_new' ho0 (Kd.R_lt (ro_ HO_8))) (Kd.R_lt (ro_ HO_10))) (below_size bl_)); have n3_ := am_ (below_step bl_ hb); clear HO_8; clear HO_10; clear HB; have HO_8 := n0_; have HO_10 := n1_; have HO1027 := n2_; have HB := n3_; clear n0_ n1_ n2_ n3_; (try clear hb); (try clear hb2); (try clear hk); (try clear hi); (try clear ho0); obtain ⟨Ao47, co47, eo47⟩ := Kd.R_slice HO1027.out; subst eo47) | ((with_reducible refine gate_callee (f := 31) rfl ?_); refine goesL_ (some 66) rfl rfl Try.func31 (by kernel_rfl) rfl #[.slice Ao47 t1025.length co47, .int .i64 a1, .int .i64 a2] rfl ag_ ?_; (with_reducible refine (impl_CutSamples.calls kj15 _ _ t1025 a1 a2 t1028 _ ?side1 ?side2 A39.out).mono ?_); (case side1 => exact cc_ (Kd.R_reads' HO1027.out).2.2); (case side2 => exact (Kd.R_reads' HO1027.out).2.1); rintro e w48 ⟨v1029, rfl, ho0, hb⟩; refine ⟨_, rfl, ?_⟩; have n0_ := am_ (Kd.R_elder' (ro_ HO_8) (Kd.R_base ho0) hb); have n1_ := am_ (Kd.R_elder' (ro_ HO_10) (Kd.R_base ho0) hb); have n2_ := am_ (Kd.R_elder' (ro_ HO1027) (Kd.R_base ho0) hb); have n3_ := am_ (Kd.R_lower (Kd.R_new' (Kd.R_new' (Kd.R_new' ho0 (Kd.R_lt (ro_ HO_8))) (Kd.R_lt (ro_ HO_10))) (Kd.R_lt (ro_ HO1027))) (below_size bl_)); have n4_ := am_ (below_step bl_ hb); clear HO_8; clear HO_10; clear HO1027; clear HB; have HO_8 := n0_; have HO_10 := n1_; have HO1027 := n2_; have HO1030 := n3_; have HB := n4_; clear n0_ n1_ n2_ n3_ n4_; (try clear hb); (try clear hb2); (try clear hk); (try clear hi); (try clear ho0); obtain ⟨Ao49, co49, eo49⟩ := Kd.R_slice HO1030.out; subst eo49) | ((with_reducible refine gate_callee (f := 29) rfl ?_); refine goesL_ (some 69) rfl rfl Try.func29 (by kernel_rfl) rfl #[.slice Ao49 t1028.length co49, .slice Ao24 t1005.length co24] rfl ag_ ?_; (with_reducible refine (laws_eqSampleS.calls kj15 _ _ t1028 _ _ t1005 true _ ?side1 ?side2 ?side3 ?side4 A40.out).mono ?_); (case side1 => exact cc_ (Kd.R_reads' HO1030.out).2.2); (case side2 => exact (Kd.R_reads' HO1030.out).2.1); (case side3 => exact cc_ (Kd.R_reads' HO_8.out).2.2); (case side4 => exact (Kd.R_reads' HO_8.out).2.1); rintro e w50 ⟨rfl, hb⟩; refine ⟨_, rfl, ?_⟩; have n0_ := am_ (Kd.R_below (ro_ HO_8) hb); have n1_ := am_ (Kd.R_below (ro_ HO_10) hb); have n2_ := am_ (Kd.R_below (ro_ HO1027) hb); have n3_ := am_ (Kd.R_below (ro_ HO1030) hb); have n4_ := am_ (below_step bl_ hb); clear HO_8; clear HO_10; clear HO1027; clear HO1030; clear HB; have HO_8 := n0_; have HO_10 := n1_; have HO1027 := n2_; have HO1030 := n3_; have HB := n4_; clear n0_ n1_ n2_ n3_ n4_; (try clear hb); (try clear hb2); (try clear hk); (try clear hi)) | ((with_reducible refine gate_callee (f := 33) rfl ?_); refine goesL_ (some 73) rfl rfl Try.func33 (by kernel_rfl) rfl #[.slice Ao23 t1023.length co23, .int .i64 1] rfl (by (try simp only [List.map_toArray, List.map_cons, List.map_nil]); first | done | (rw [show t1023.length = t1011.length from (Kd.R_reads' HO_10.out).1.symm] <;> rfl) | rfl | (simp only [List.length_drop, List.length_take]; rfl)) ?_; (with_reducible refine (laws_heldSampleS.calls kj15 _ _ t1023 1 t1032 _ ?side1 ?side2 A42.out).mono ?_); (case side1 => exact cc_ (Kd.R_reads' HO_10.out).2.2); (case side2 => rw [show t1023.length = t1011.length from (Kd.R_reads' HO_10.out).1.symm]; exact (Kd.R_reads' HO_10.out).2.1); rintro e w' ⟨rfl, ⟨nd, rfl⟩⟩; refine ⟨_, rfl, ?_⟩))
            go_ret
            exact ⟨rf_, bl_⟩
           ·rw [if_neg c44] at H
            exact absurd H (by simp)
         ·replace c41 := Bool.eq_false_iff.mpr c41
          subst c41
          have H1 : (none) = some r := by rw [if_neg (show ¬ (false = true) by decide)] at H; exact H
          clear H
          have H := H1
          clear H1
          exact absurd H (by simp)
        ·rw [if_neg c37] at H
         exact absurd H (by simp)
   ·replace c14 := Bool.eq_false_iff.mpr c14
    subst c14
    have H1 : (none) = some r := by rw [if_neg (show ¬ (false = true) by decide)] at H; exact H
    clear H
    have H := H1
    clear H1
    exact absurd H (by simp)
  ·replace c11 := Bool.eq_false_iff.mpr c11
   subst c11
   have H1 : (none) = some r := by rw [if_neg (show ¬ (false = true) by decide)] at H; exact H
   clear H
   have H := H1
   clear H1
   exact absurd H (by simp)

end Go.Proofs.Ytjapdjkckhcelaa.Pr
