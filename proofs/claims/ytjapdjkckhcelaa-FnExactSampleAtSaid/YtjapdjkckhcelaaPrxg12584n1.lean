/- Functions of the given program as plain Lean functions, and that the machine's calls come to them; written by a program of this session; no condition but those that each theorem states. -/
import Derived.Test.YtjapdjkckhcelaaPrx0
import Derived.Test.YtjapdjkckhcelaaPrxg1cf53n1
namespace Go.Proofs.Ytjapdjkckhcelaa.Pr
open Go.RowKit Go.Proofs.YtjapdjkckhcelaaW.PrintWords Go.Proofs.YtjapdjkckhcelaaW.PrintLast Go.Proofs.YtjapdjkckhcelaaW.PrintMore
attribute [local go_sem] max2_int min2_int max_two min_two max_three min_three max_four min_four   -- for this text's walks alone
set_option linter.unusedVariables false
set_option linter.unusedSimpArgs false

/-! ### laws_szSampleS: function 24 -/
def laws_szSampleS.f (l0 : List (S90)) (a1 : Int) : Option (Int) := if (wrap64 (a1 - (l0.length : Int))) < 0 then (some (-1)) else (some (wrap64 (a1 - (l0.length : Int))))
set_option maxHeartbeats 8000000 in
set_option maxRecDepth 100000 in
theorem laws_szSampleS.calls (A0 : Option Addr) (c0 : Nat) (l0 : List (S90)) (a1 : Int) (r : Int) (w : World) (hr0 : Kd.C k90 w A0 l0.length l0) (hc0 : l0.length ≤ c0) (h : laws_szSampleS.f l0 a1 = some r) :
  Calls Try.prog 24 #[.slice A0 l0.length c0, .int .i64 a1] w fun e w' => e = .returned (.int .i64 r) ∧ Drawn0 w w' := by
 have HR0 := am_ hr0
 have HC0 := am_ hc0
 clear hr0 hc0
 have H : (if (wrap64 (a1 - (l0.length : Int))) < 0 then (some (-1)) else (some (wrap64 (a1 - (l0.length : Int))))) = some r := h
 clear h
 by_cases c3 : (wrap64 (a1 - (l0.length : Int))) < 0
 ·rw [if_pos c3] at H
  have c3b0 : decide ((wrap64 (a1 - (l0.length : Int))) < 0) = true := decide_eq_true c3
  clear c3
  obtain rfl := Option.some.inj H
  go_enter Try.func24, Try.ntmps24
  go_wp2
  go_ret
  exact ⟨by first | rfl | (simp; done) | (simp [*]; done), by repeat (first | exact Drawn0.refl _ | apply Drawn0.step)⟩
 ·rw [if_neg c3] at H
  have c3b0 : decide ((wrap64 (a1 - (l0.length : Int))) < 0) = false := decide_eq_false c3
  clear c3
  obtain rfl := Option.some.inj H
  go_enter Try.func24, Try.ntmps24
  go_wp2
  go_ret
  exact ⟨by first | rfl | (simp; done) | (simp [*]; done), by repeat (first | exact Drawn0.refl _ | apply Drawn0.step)⟩

/-! ### spec_GoodSamples: function 72 -/
def spec_GoodSamples.l0 : Nat → List (S37) → List (S37) → Int → Int → Option (Bool)
 | 0, _, _, _, _ => none
 | k + 1, x0, x5, x6, x7 => if x7 < x6 then (if 0 ≤ x7 then (if x7 < (x5.length : Int) then ((spec_l3Time.f ((rd_T37 x5 x7).f0)).bind fun t1003 => (if t1003 = true then (if x7 > 0 then (if 0 ≤ (wrap64 (x7 - 1)) then (if (wrap64 (x7 - 1)) < (x0.length : Int) then (if ((rd_T37 x0 (wrap64 (x7 - 1))).f0) ≥ ((rd_T37 x5 x7).f0) then (some false) else (spec_GoodSamples.l0 k x0 x5 x6 (wrap64 (x7 + 1)))) else (none)) else (none)) else (spec_GoodSamples.l0 k x0 x5 x6 (wrap64 (x7 + 1)))) else (some false))) else (none)) else (none)) else (some (decide ((x0.length : Int) ≤ 2000)))
def spec_GoodSamples.f (k : Nat) (l0 : List (S37)) : Option (Bool) := spec_GoodSamples.l0 k l0 l0 (l0.length : Int) 0
theorem spec_GoodSamples.mono_l : ∀ k, (∀ y0 y1 y2 y3, LeO (spec_GoodSamples.l0 k y0 y1 y2 y3) (spec_GoodSamples.l0 (k + 1) y0 y1 y2 y3))
 | 0 => fun _ _ _ _ r h => by simp [spec_GoodSamples.l0] at h
 | k + 1 => by
  have ih0 := spec_GoodSamples.mono_l k
  ·intro y0 y1 y2 y3
   unfold spec_GoodSamples.l0
   repeat' first
   | with_reducible first | exact ih0 _ _ _ _ | exact LeO.refl _ | exact LeO.none _ | refine LeO.ite ?_ ?_ | refine LeO.bind ?_ (fun _ => ?_)
   | exact ih0 _ _ _ _
   | exact LeO.none _
   | refine LeO.ite ?_ ?_
   | refine LeO.bind ?_ (fun _ => ?_)
theorem spec_GoodSamples.mono : ∀ a0 k, LeO (spec_GoodSamples.f k a0) (spec_GoodSamples.f (k + 1) a0) := by
 intro a0 k
 have ih0 := spec_GoodSamples.mono_l k
 unfold spec_GoodSamples.f
 repeat' first
   | with_reducible first | exact ih0 _ _ _ _ | exact LeO.refl _ | exact LeO.none _ | refine LeO.ite ?_ ?_ | refine LeO.bind ?_ (fun _ => ?_)
   | exact ih0 _ _ _ _
   | exact LeO.none _
   | refine LeO.ite ?_ ?_
   | refine LeO.bind ?_ (fun _ => ?_)
set_option maxHeartbeats 8000000 in
set_option maxRecDepth 100000 in
theorem spec_GoodSamples.calls (k : Nat) (A0 : Option Addr) (c0 : Nat) (l0 : List (S37)) (r : Bool) (w : World) (hr0 : Kd.C k37 w A0 l0.length l0) (hc0 : l0.length ≤ c0) (h : spec_GoodSamples.f k l0 = some r) :
  Calls Try.prog 72 #[.slice A0 l0.length c0] w fun e w' => e = .returned (.bool r) ∧ Below w.heap.size w w' := by
 have hu37 := Try.underlying37
 have HR0 := am_ hr0
 have HC0 := am_ hc0
 clear hr0 hc0
 have HB := am_ (Below.refl w.heap.size w)
 have H : (spec_GoodSamples.l0 k l0 l0 (l0.length : Int) 0) = some r := h
 clear h
 have H' := am_ H
 clear H
 go_enter Try.func72, Try.ntmps72
 go_wp2
 repeat (go_quiet (fail); try go_wp2)
 go_loopg [7] k (fun kq v7 w' => ∃ (x7_1 : Int), v7 = .int .i64 x7_1 ∧ Aside0 (spec_GoodSamples.l0 kq l0 l0 (l0.length : Int) x7_1 = some r) ∧ Aside0 (kq ≤ k) ∧ Aside0 (Below w.heap.size w w'))
 case atStart => exact ⟨(0), rs_, H', ⟨Nat.le_refl _⟩, ⟨bl_⟩⟩
 case round =>
  clear H'
  obtain ⟨x7_1, rfl, HA, HK1, HB⟩ := hrel
  cases gk with
  | zero => exact absurd HA.out (by simp [spec_GoodSamples.l0])
  | succ k1 =>
   have H := HA.out
   clear HA
   simp only [spec_GoodSamples.l0] at H
   by_cases c2 : x7_1 < (l0.length : Int)
   ·rw [if_pos c2] at H
    have c2b0 : decide (x7_1 < (l0.length : Int)) = true := decide_eq_true c2
    clear c2
    by_cases c3 : 0 ≤ x7_1
    ·rw [if_pos c3] at H
     have c3b0 : decide (0 ≤ x7_1) = true := decide_eq_true c3
     clear c3
     by_cases c4 : x7_1 < (l0.length : Int)
     ·rw [if_pos c4] at H
      have c4b0 : decide (x7_1 < (l0.length : Int)) = true := decide_eq_true c4
      clear c4
      replace H := Option.bind_eq_some_iff.mp H
      obtain ⟨t1003, A50, H⟩ := H
      replace H : (if t1003 = true then (if x7_1 > 0 then (if 0 ≤ (wrap64 (x7_1 - 1)) then (if (wrap64 (x7_1 - 1)) < (l0.length : Int) then (if ((rd_T37 l0 (wrap64 (x7_1 - 1))).f0) ≥ ((rd_T37 l0 x7_1).f0) then (some false) else (spec_GoodSamples.l0 k1 l0 l0 (l0.length : Int) (wrap64 (x7_1 + 1)))) else (none)) else (none)) else (spec_GoodSamples.l0 k1 l0 l0 (l0.length : Int) (wrap64 (x7_1 + 1)))) else (some false)) = some r := H
      have A5 := am_ A50
      clear A50
      by_cases c6 : t1003 = true
      ·subst c6
       have H1 : (if x7_1 > 0 then (if 0 ≤ (wrap64 (x7_1 - 1)) then (if (wrap64 (x7_1 - 1)) < (l0.length : Int) then (if ((rd_T37 l0 (wrap64 (x7_1 - 1))).f0) ≥ ((rd_T37 l0 x7_1).f0) then (some false) else (spec_GoodSamples.l0 k1 l0 l0 (l0.length : Int) (wrap64 (x7_1 + 1)))) else (none)) else (none)) else (spec_GoodSamples.l0 k1 l0 l0 (l0.length : Int) (wrap64 (x7_1 + 1)))) = some r := by rw [if_pos rfl] at H; exact H
       clear H
       have H := H1
       clear H1
       by_cases c7 : x7_1 > 0
       ·rw [if_pos c7] at H
        have c7b0 : decide (0 < x7_1) = true := decide_eq_true c7
        clear c7
        obtain ⟨ji8, hji8⟩ : ∃ j_ : Int, (wrap64 (x7_1 - 1)) = j_ := ⟨_, rfl⟩
        replace H : (if 0 ≤ (ji8) then (if (ji8) < (l0.length : Int) then (if ((rd_T37 l0 (ji8)).f0) ≥ ((rd_T37 l0 x7_1).f0) then (some false) else (spec_GoodSamples.l0 k1 l0 l0 (l0.length : Int) (wrap64 (x7_1 + 1)))) else (none)) else (none)) = some r := by first | (rw [hji8] at H; exact H) | (simp only [hji8] at H ⊢; exact H)
        (try rw [hji8] at A5)
        have hji8w : (IntKind.i64.wrap (x7_1 - 1)) = ji8 := (i64_w _).trans hji8
        by_cases c9 : 0 ≤ (ji8)
        ·rw [if_pos c9] at H
         have c9b0 : decide (0 ≤ (ji8)) = true := decide_eq_true c9
         clear c9
         by_cases c10 : (ji8) < (l0.length : Int)
         ·rw [if_pos c10] at H
          have c10b0 : decide ((ji8) < (l0.length : Int)) = true := decide_eq_true c10
          clear c10
          by_cases c11 : ((rd_T37 l0 (ji8)).f0) ≥ ((rd_T37 l0 x7_1).f0)
          ·rw [if_pos c11] at H
           have c11b0 : decide (((rd_T37 l0 x7_1).f0) ≤ ((rd_T37 l0 (ji8)).f0)) = true := decide_eq_true c11
           clear c11
           obtain rfl := Option.some.inj H
           have p1001 : 0 ≤ (x7_1 : Int) := od_
           have q1001 : x7_1 < (l0.length : Int) := od_
           obtain ⟨ad1001, e1001, hx1001_0, hx1001_1⟩ := at_T37 HR0.out x7_1 p1001 q1001
           cases e1001
           replace hx1001_0 := kp_ HB hx1001_0
           replace hx1001_1 := kp_ HB hx1001_1
           replace p1001 := eq_true p1001
           replace q1001 := eq_true q1001
           go_wp2_with (first | ((with_reducible refine gate_dst (N := 4) rfl ?_); refine box_event ?hg (N := 4) ?hd (cs := #[.int .i64 0, .int .i64 0]) (t := 37) ?hr ?_; (case hd => rfl); (case hg => rfl); (case hr => first | (go_simp; done) | (go_simp; rfl)); intro gb1002 hg w12 hbox hb; have n0_ := am_ (below_step bl_ hb); have n1_ := am_ (hbox); have n2_ := am_ (gs_ hg : w.heap.size ≤ gb1002); have n3_ := n2_; clear HB; have HB := n0_; have BK1002 := n1_; have GW1002 := n2_; have GE1002 := n3_; clear n0_ n1_ n2_ n3_; clear hb hbox hg; have hcz13_0 := bc2_0 BK1002; have hcz13_1 := bc2_1 BK1002; have hfz13_0 := bf_ BK1002 0; have hfz13_1 := bf_ BK1002 1) | (go_at_call 73; (with_reducible refine (spec_l3Time.calls ((rd_T37 l0 x7_1).f0) true _ A5.out).mono ?_); rintro e w' ⟨rfl, ⟨nd, rfl⟩⟩; (try exact dd_); have p1004 : 0 ≤ ((ji8) : Int) := od_; have q1004 : (ji8) < (l0.length : Int) := od_; obtain ⟨ad1004, e1004, hx1004_0, hx1004_1⟩ := at_T37 HR0.out (ji8) p1004 q1004; obtain rfl : ad1001 = ad1004 := (by injection e1004); have hn1004_0 : ad1001.block ≠ gb1002 := hb_ hx1004_0 GW1002; have hn1004_1 : ad1001.block ≠ gb1002 := hb_ hx1004_0 GW1002; replace hx1004_0 := kp_ HB hx1004_0; replace hx1004_1 := kp_ HB hx1004_1; replace hx1004_0 := cf_ gb1002 0 hn1004_0 (.int .i64 ((rd_T37 l0 x7_1).f0)) hx1004_0; replace hx1004_1 := cf_ gb1002 0 hn1004_0 (.int .i64 ((rd_T37 l0 x7_1).f0)) hx1004_1; replace hx1004_0 := cf_ gb1002 1 hn1004_1 (.int .i64 ((rd_T37 l0 x7_1).f1)) hx1004_0; replace hx1004_1 := cf_ gb1002 1 hn1004_1 (.int .i64 ((rd_T37 l0 x7_1).f1)) hx1004_1; (try have hy1004_0 := fun (n_ : Nat) => (show ((((w12.drewN n_).setCell ⟨gb1002, 0, none⟩ (.int .i64 ((rd_T37 l0 x7_1).f0))).setCell ⟨gb1002, 1, none⟩ (.int .i64 ((rd_T37 l0 x7_1).f1)))).cell? _ = some _ from hx1004_0)); (try have hy1004_1 := fun (n_ : Nat) => (show ((((w12.drewN n_).setCell ⟨gb1002, 0, none⟩ (.int .i64 ((rd_T37 l0 x7_1).f0))).setCell ⟨gb1002, 1, none⟩ (.int .i64 ((rd_T37 l0 x7_1).f1)))).cell? _ = some _ from hx1004_1)); clear hn1004_0; clear hn1004_1; replace p1004 := eq_true p1004; replace q1004 := eq_true q1004))
           repeat (go_quiet (first | ((with_reducible refine gate_dst (N := 4) rfl ?_); refine box_event ?hg (N := 4) ?hd (cs := #[.int .i64 0, .int .i64 0]) (t := 37) ?hr ?_; (case hd => rfl); (case hg => rfl); (case hr => first | (go_simp; done) | (go_simp; rfl)); intro gb1002 hg w12 hbox hb; have n0_ := am_ (below_step bl_ hb); have n1_ := am_ (hbox); have n2_ := am_ (gs_ hg : w.heap.size ≤ gb1002); have n3_ := n2_; clear HB; have HB := n0_; have BK1002 := n1_; have GW1002 := n2_; have GE1002 := n3_; clear n0_ n1_ n2_ n3_; clear hb hbox hg; have hcz13_0 := bc2_0 BK1002; have hcz13_1 := bc2_1 BK1002; have hfz13_0 := bf_ BK1002 0; have hfz13_1 := bf_ BK1002 1) | (go_at_call 73; (with_reducible refine (spec_l3Time.calls ((rd_T37 l0 x7_1).f0) true _ A5.out).mono ?_); rintro e w' ⟨rfl, ⟨nd, rfl⟩⟩; (try exact dd_); have p1004 : 0 ≤ ((ji8) : Int) := od_; have q1004 : (ji8) < (l0.length : Int) := od_; obtain ⟨ad1004, e1004, hx1004_0, hx1004_1⟩ := at_T37 HR0.out (ji8) p1004 q1004; obtain rfl : ad1001 = ad1004 := (by injection e1004); have hn1004_0 : ad1001.block ≠ gb1002 := hb_ hx1004_0 GW1002; have hn1004_1 : ad1001.block ≠ gb1002 := hb_ hx1004_0 GW1002; replace hx1004_0 := kp_ HB hx1004_0; replace hx1004_1 := kp_ HB hx1004_1; replace hx1004_0 := cf_ gb1002 0 hn1004_0 (.int .i64 ((rd_T37 l0 x7_1).f0)) hx1004_0; replace hx1004_1 := cf_ gb1002 0 hn1004_0 (.int .i64 ((rd_T37 l0 x7_1).f0)) hx1004_1; replace hx1004_0 := cf_ gb1002 1 hn1004_1 (.int .i64 ((rd_T37 l0 x7_1).f1)) hx1004_0; replace hx1004_1 := cf_ gb1002 1 hn1004_1 (.int .i64 ((rd_T37 l0 x7_1).f1)) hx1004_1; (try have hy1004_0 := fun (n_ : Nat) => (show ((((w12.drewN n_).setCell ⟨gb1002, 0, none⟩ (.int .i64 ((rd_T37 l0 x7_1).f0))).setCell ⟨gb1002, 1, none⟩ (.int .i64 ((rd_T37 l0 x7_1).f1)))).cell? _ = some _ from hx1004_0)); (try have hy1004_1 := fun (n_ : Nat) => (show ((((w12.drewN n_).setCell ⟨gb1002, 0, none⟩ (.int .i64 ((rd_T37 l0 x7_1).f0))).setCell ⟨gb1002, 1, none⟩ (.int .i64 ((rd_T37 l0 x7_1).f1)))).cell? _ = some _ from hx1004_1)); clear hn1004_0; clear hn1004_1; replace p1004 := eq_true p1004; replace q1004 := eq_true q1004)); try go_wp2_with (first | ((with_reducible refine gate_dst (N := 4) rfl ?_); refine box_event ?hg (N := 4) ?hd (cs := #[.int .i64 0, .int .i64 0]) (t := 37) ?hr ?_; (case hd => rfl); (case hg => rfl); (case hr => first | (go_simp; done) | (go_simp; rfl)); intro gb1002 hg w12 hbox hb; have n0_ := am_ (below_step bl_ hb); have n1_ := am_ (hbox); have n2_ := am_ (gs_ hg : w.heap.size ≤ gb1002); have n3_ := n2_; clear HB; have HB := n0_; have BK1002 := n1_; have GW1002 := n2_; have GE1002 := n3_; clear n0_ n1_ n2_ n3_; clear hb hbox hg; have hcz13_0 := bc2_0 BK1002; have hcz13_1 := bc2_1 BK1002; have hfz13_0 := bf_ BK1002 0; have hfz13_1 := bf_ BK1002 1) | (go_at_call 73; (with_reducible refine (spec_l3Time.calls ((rd_T37 l0 x7_1).f0) true _ A5.out).mono ?_); rintro e w' ⟨rfl, ⟨nd, rfl⟩⟩; (try exact dd_); have p1004 : 0 ≤ ((ji8) : Int) := od_; have q1004 : (ji8) < (l0.length : Int) := od_; obtain ⟨ad1004, e1004, hx1004_0, hx1004_1⟩ := at_T37 HR0.out (ji8) p1004 q1004; obtain rfl : ad1001 = ad1004 := (by injection e1004); have hn1004_0 : ad1001.block ≠ gb1002 := hb_ hx1004_0 GW1002; have hn1004_1 : ad1001.block ≠ gb1002 := hb_ hx1004_0 GW1002; replace hx1004_0 := kp_ HB hx1004_0; replace hx1004_1 := kp_ HB hx1004_1; replace hx1004_0 := cf_ gb1002 0 hn1004_0 (.int .i64 ((rd_T37 l0 x7_1).f0)) hx1004_0; replace hx1004_1 := cf_ gb1002 0 hn1004_0 (.int .i64 ((rd_T37 l0 x7_1).f0)) hx1004_1; replace hx1004_0 := cf_ gb1002 1 hn1004_1 (.int .i64 ((rd_T37 l0 x7_1).f1)) hx1004_0; replace hx1004_1 := cf_ gb1002 1 hn1004_1 (.int .i64 ((rd_T37 l0 x7_1).f1)) hx1004_1; (try have hy1004_0 := fun (n_ : Nat) => (show ((((w12.drewN n_).setCell ⟨gb1002, 0, none⟩ (.int .i64 ((rd_T37 l0 x7_1).f0))).setCell ⟨gb1002, 1, none⟩ (.int .i64 ((rd_T37 l0 x7_1).f1)))).cell? _ = some _ from hx1004_0)); (try have hy1004_1 := fun (n_ : Nat) => (show ((((w12.drewN n_).setCell ⟨gb1002, 0, none⟩ (.int .i64 ((rd_T37 l0 x7_1).f0))).setCell ⟨gb1002, 1, none⟩ (.int .i64 ((rd_T37 l0 x7_1).f1)))).cell? _ = some _ from hx1004_1)); clear hn1004_0; clear hn1004_1; replace p1004 := eq_true p1004; replace q1004 := eq_true q1004)))
           go_ret
           exact ⟨by first | rfl | (simp [errW_none, errW_some] <;> rfl) | (simp only [← hji8]; first | rfl | (simp [errW_none, errW_some] <;> rfl)) | (simp [*, errW_none, errW_some] <;> rfl) | (simp [*, Go.Proofs.Ytjapdjkckhcelaa.Gt.nil_bne]; done), bg_⟩
          ·rw [if_neg c11] at H
           have c11b0 : decide (((rd_T37 l0 x7_1).f0) ≤ ((rd_T37 l0 (ji8)).f0)) = false := decide_eq_false c11
           clear c11
           have H' := am_ H
           clear H
           have p1001 : 0 ≤ (x7_1 : Int) := od_
           have q1001 : x7_1 < (l0.length : Int) := od_
           obtain ⟨ad1001, e1001, hx1001_0, hx1001_1⟩ := at_T37 HR0.out x7_1 p1001 q1001
           cases e1001
           replace hx1001_0 := kp_ HB hx1001_0
           replace hx1001_1 := kp_ HB hx1001_1
           replace p1001 := eq_true p1001
           replace q1001 := eq_true q1001
           go_wp2_with (first | ((with_reducible refine gate_dst (N := 4) rfl ?_); refine box_event ?hg (N := 4) ?hd (cs := #[.int .i64 0, .int .i64 0]) (t := 37) ?hr ?_; (case hd => rfl); (case hg => rfl); (case hr => first | (go_simp; done) | (go_simp; rfl)); intro gb1002 hg w14 hbox hb; have n0_ := am_ (below_step bl_ hb); have n1_ := am_ (hbox); have n2_ := am_ (gs_ hg : w.heap.size ≤ gb1002); have n3_ := n2_; clear HB; have HB := n0_; have BK1002 := n1_; have GW1002 := n2_; have GE1002 := n3_; clear n0_ n1_ n2_ n3_; clear hb hbox hg; have hcz15_0 := bc2_0 BK1002; have hcz15_1 := bc2_1 BK1002; have hfz15_0 := bf_ BK1002 0; have hfz15_1 := bf_ BK1002 1) | (go_at_call 73; (with_reducible refine (spec_l3Time.calls ((rd_T37 l0 x7_1).f0) true _ A5.out).mono ?_); rintro e w' ⟨rfl, ⟨nd, rfl⟩⟩; (try exact dd_); have p1004 : 0 ≤ ((ji8) : Int) := od_; have q1004 : (ji8) < (l0.length : Int) := od_; obtain ⟨ad1004, e1004, hx1004_0, hx1004_1⟩ := at_T37 HR0.out (ji8) p1004 q1004; obtain rfl : ad1001 = ad1004 := (by injection e1004); have hn1004_0 : ad1001.block ≠ gb1002 := hb_ hx1004_0 GW1002; have hn1004_1 : ad1001.block ≠ gb1002 := hb_ hx1004_0 GW1002; replace hx1004_0 := kp_ HB hx1004_0; replace hx1004_1 := kp_ HB hx1004_1; replace hx1004_0 := cf_ gb1002 0 hn1004_0 (.int .i64 ((rd_T37 l0 x7_1).f0)) hx1004_0; replace hx1004_1 := cf_ gb1002 0 hn1004_0 (.int .i64 ((rd_T37 l0 x7_1).f0)) hx1004_1; replace hx1004_0 := cf_ gb1002 1 hn1004_1 (.int .i64 ((rd_T37 l0 x7_1).f1)) hx1004_0; replace hx1004_1 := cf_ gb1002 1 hn1004_1 (.int .i64 ((rd_T37 l0 x7_1).f1)) hx1004_1; (try have hy1004_0 := fun (n_ : Nat) => (show ((((w14.drewN n_).setCell ⟨gb1002, 0, none⟩ (.int .i64 ((rd_T37 l0 x7_1).f0))).setCell ⟨gb1002, 1, none⟩ (.int .i64 ((rd_T37 l0 x7_1).f1)))).cell? _ = some _ from hx1004_0)); (try have hy1004_1 := fun (n_ : Nat) => (show ((((w14.drewN n_).setCell ⟨gb1002, 0, none⟩ (.int .i64 ((rd_T37 l0 x7_1).f0))).setCell ⟨gb1002, 1, none⟩ (.int .i64 ((rd_T37 l0 x7_1).f1)))).cell? _ = some _ from hx1004_1)); clear hn1004_0; clear hn1004_1; replace p1004 := eq_true p1004; replace q1004 := eq_true q1004))
           repeat (go_quiet (first | ((with_reducible refine gate_dst (N := 4) rfl ?_); refine box_event ?hg (N := 4) ?hd (cs := #[.int .i64 0, .int .i64 0]) (t := 37) ?hr ?_; (case hd => rfl); (case hg => rfl); (case hr => first | (go_simp; done) | (go_simp; rfl)); intro gb1002 hg w14 hbox hb; have n0_ := am_ (below_step bl_ hb); have n1_ := am_ (hbox); have n2_ := am_ (gs_ hg : w.heap.size ≤ gb1002); have n3_ := n2_; clear HB; have HB := n0_; have BK1002 := n1_; have GW1002 := n2_; have GE1002 := n3_; clear n0_ n1_ n2_ n3_; clear hb hbox hg; have hcz15_0 := bc2_0 BK1002; have hcz15_1 := bc2_1 BK1002; have hfz15_0 := bf_ BK1002 0; have hfz15_1 := bf_ BK1002 1) | (go_at_call 73; (with_reducible refine (spec_l3Time.calls ((rd_T37 l0 x7_1).f0) true _ A5.out).mono ?_); rintro e w' ⟨rfl, ⟨nd, rfl⟩⟩; (try exact dd_); have p1004 : 0 ≤ ((ji8) : Int) := od_; have q1004 : (ji8) < (l0.length : Int) := od_; obtain ⟨ad1004, e1004, hx1004_0, hx1004_1⟩ := at_T37 HR0.out (ji8) p1004 q1004; obtain rfl : ad1001 = ad1004 := (by injection e1004); have hn1004_0 : ad1001.block ≠ gb1002 := hb_ hx1004_0 GW1002; have hn1004_1 : ad1001.block ≠ gb1002 := hb_ hx1004_0 GW1002; replace hx1004_0 := kp_ HB hx1004_0; replace hx1004_1 := kp_ HB hx1004_1; replace hx1004_0 := cf_ gb1002 0 hn1004_0 (.int .i64 ((rd_T37 l0 x7_1).f0)) hx1004_0; replace hx1004_1 := cf_ gb1002 0 hn1004_0 (.int .i64 ((rd_T37 l0 x7_1).f0)) hx1004_1; replace hx1004_0 := cf_ gb1002 1 hn1004_1 (.int .i64 ((rd_T37 l0 x7_1).f1)) hx1004_0; replace hx1004_1 := cf_ gb1002 1 hn1004_1 (.int .i64 ((rd_T37 l0 x7_1).f1)) hx1004_1; (try have hy1004_0 := fun (n_ : Nat) => (show ((((w14.drewN n_).setCell ⟨gb1002, 0, none⟩ (.int .i64 ((rd_T37 l0 x7_1).f0))).setCell ⟨gb1002, 1, none⟩ (.int .i64 ((rd_T37 l0 x7_1).f1)))).cell? _ = some _ from hx1004_0)); (try have hy1004_1 := fun (n_ : Nat) => (show ((((w14.drewN n_).setCell ⟨gb1002, 0, none⟩ (.int .i64 ((rd_T37 l0 x7_1).f0))).setCell ⟨gb1002, 1, none⟩ (.int .i64 ((rd_T37 l0 x7_1).f1)))).cell? _ = some _ from hx1004_1)); clear hn1004_0; clear hn1004_1; replace p1004 := eq_true p1004; replace q1004 := eq_true q1004)); try go_wp2_with (first | ((with_reducible refine gate_dst (N := 4) rfl ?_); refine box_event ?hg (N := 4) ?hd (cs := #[.int .i64 0, .int .i64 0]) (t := 37) ?hr ?_; (case hd => rfl); (case hg => rfl); (case hr => first | (go_simp; done) | (go_simp; rfl)); intro gb1002 hg w14 hbox hb; have n0_ := am_ (below_step bl_ hb); have n1_ := am_ (hbox); have n2_ := am_ (gs_ hg : w.heap.size ≤ gb1002); have n3_ := n2_; clear HB; have HB := n0_; have BK1002 := n1_; have GW1002 := n2_; have GE1002 := n3_; clear n0_ n1_ n2_ n3_; clear hb hbox hg; have hcz15_0 := bc2_0 BK1002; have hcz15_1 := bc2_1 BK1002; have hfz15_0 := bf_ BK1002 0; have hfz15_1 := bf_ BK1002 1) | (go_at_call 73; (with_reducible refine (spec_l3Time.calls ((rd_T37 l0 x7_1).f0) true _ A5.out).mono ?_); rintro e w' ⟨rfl, ⟨nd, rfl⟩⟩; (try exact dd_); have p1004 : 0 ≤ ((ji8) : Int) := od_; have q1004 : (ji8) < (l0.length : Int) := od_; obtain ⟨ad1004, e1004, hx1004_0, hx1004_1⟩ := at_T37 HR0.out (ji8) p1004 q1004; obtain rfl : ad1001 = ad1004 := (by injection e1004); have hn1004_0 : ad1001.block ≠ gb1002 := hb_ hx1004_0 GW1002; have hn1004_1 : ad1001.block ≠ gb1002 := hb_ hx1004_0 GW1002; replace hx1004_0 := kp_ HB hx1004_0; replace hx1004_1 := kp_ HB hx1004_1; replace hx1004_0 := cf_ gb1002 0 hn1004_0 (.int .i64 ((rd_T37 l0 x7_1).f0)) hx1004_0; replace hx1004_1 := cf_ gb1002 0 hn1004_0 (.int .i64 ((rd_T37 l0 x7_1).f0)) hx1004_1; replace hx1004_0 := cf_ gb1002 1 hn1004_1 (.int .i64 ((rd_T37 l0 x7_1).f1)) hx1004_0; replace hx1004_1 := cf_ gb1002 1 hn1004_1 (.int .i64 ((rd_T37 l0 x7_1).f1)) hx1004_1; (try have hy1004_0 := fun (n_ : Nat) => (show ((((w14.drewN n_).setCell ⟨gb1002, 0, none⟩ (.int .i64 ((rd_T37 l0 x7_1).f0))).setCell ⟨gb1002, 1, none⟩ (.int .i64 ((rd_T37 l0 x7_1).f1)))).cell? _ = some _ from hx1004_0)); (try have hy1004_1 := fun (n_ : Nat) => (show ((((w14.drewN n_).setCell ⟨gb1002, 0, none⟩ (.int .i64 ((rd_T37 l0 x7_1).f0))).setCell ⟨gb1002, 1, none⟩ (.int .i64 ((rd_T37 l0 x7_1).f1)))).cell? _ = some _ from hx1004_1)); clear hn1004_0; clear hn1004_1; replace p1004 := eq_true p1004; replace q1004 := eq_true q1004)))
           go_roundg k1
           case measure => have := HK1.out; omega
           case rel => exact ⟨(wrap64 (x7_1 + 1)), rs_, H', ⟨by have := HK1.out; omega⟩, ⟨bg_⟩⟩
         ·rw [if_neg c10] at H
          exact absurd H (by simp)
        ·rw [if_neg c9] at H
         exact absurd H (by simp)
       ·rw [if_neg c7] at H
        have c7b0 : decide (0 < x7_1) = false := decide_eq_false c7
        clear c7
        have H' := am_ H
        clear H
        have p1001 : 0 ≤ (x7_1 : Int) := od_
        have q1001 : x7_1 < (l0.length : Int) := od_
        obtain ⟨ad1001, e1001, hx1001_0, hx1001_1⟩ := at_T37 HR0.out x7_1 p1001 q1001
        cases e1001
        replace hx1001_0 := kp_ HB hx1001_0
        replace hx1001_1 := kp_ HB hx1001_1
        replace p1001 := eq_true p1001
        replace q1001 := eq_true q1001
        go_wp2_with (first | ((with_reducible refine gate_dst (N := 4) rfl ?_); refine box_event ?hg (N := 4) ?hd (cs := #[.int .i64 0, .int .i64 0]) (t := 37) ?hr ?_; (case hd => rfl); (case hg => rfl); (case hr => first | (go_simp; done) | (go_simp; rfl)); intro gb1002 hg w16 hbox hb; have n0_ := am_ (below_step bl_ hb); have n1_ := am_ (hbox); have n2_ := am_ (gs_ hg : w.heap.size ≤ gb1002); have n3_ := n2_; clear HB; have HB := n0_; have BK1002 := n1_; have GW1002 := n2_; have GE1002 := n3_; clear n0_ n1_ n2_ n3_; clear hb hbox hg; have hcz17_0 := bc2_0 BK1002; have hcz17_1 := bc2_1 BK1002; have hfz17_0 := bf_ BK1002 0; have hfz17_1 := bf_ BK1002 1) | (go_at_call 73; (with_reducible refine (spec_l3Time.calls ((rd_T37 l0 x7_1).f0) true _ A5.out).mono ?_); rintro e w' ⟨rfl, ⟨nd, rfl⟩⟩; (try exact dd_)))
        repeat (go_quiet (first | ((with_reducible refine gate_dst (N := 4) rfl ?_); refine box_event ?hg (N := 4) ?hd (cs := #[.int .i64 0, .int .i64 0]) (t := 37) ?hr ?_; (case hd => rfl); (case hg => rfl); (case hr => first | (go_simp; done) | (go_simp; rfl)); intro gb1002 hg w16 hbox hb; have n0_ := am_ (below_step bl_ hb); have n1_ := am_ (hbox); have n2_ := am_ (gs_ hg : w.heap.size ≤ gb1002); have n3_ := n2_; clear HB; have HB := n0_; have BK1002 := n1_; have GW1002 := n2_; have GE1002 := n3_; clear n0_ n1_ n2_ n3_; clear hb hbox hg; have hcz17_0 := bc2_0 BK1002; have hcz17_1 := bc2_1 BK1002; have hfz17_0 := bf_ BK1002 0; have hfz17_1 := bf_ BK1002 1) | (go_at_call 73; (with_reducible refine (spec_l3Time.calls ((rd_T37 l0 x7_1).f0) true _ A5.out).mono ?_); rintro e w' ⟨rfl, ⟨nd, rfl⟩⟩; (try exact dd_))); try go_wp2_with (first | ((with_reducible refine gate_dst (N := 4) rfl ?_); refine box_event ?hg (N := 4) ?hd (cs := #[.int .i64 0, .int .i64 0]) (t := 37) ?hr ?_; (case hd => rfl); (case hg => rfl); (case hr => first | (go_simp; done) | (go_simp; rfl)); intro gb1002 hg w16 hbox hb; have n0_ := am_ (below_step bl_ hb); have n1_ := am_ (hbox); have n2_ := am_ (gs_ hg : w.heap.size ≤ gb1002); have n3_ := n2_; clear HB; have HB := n0_; have BK1002 := n1_; have GW1002 := n2_; have GE1002 := n3_; clear n0_ n1_ n2_ n3_; clear hb hbox hg; have hcz17_0 := bc2_0 BK1002; have hcz17_1 := bc2_1 BK1002; have hfz17_0 := bf_ BK1002 0; have hfz17_1 := bf_ BK1002 1) | (go_at_call 73; (with_reducible refine (spec_l3Time.calls ((rd_T37 l0 x7_1).f0) true _ A5.out).mono ?_); rintro e w' ⟨rfl, ⟨nd, rfl⟩⟩; (try exact dd_))))
        go_roundg k1
        case measure => have := HK1.out; omega
        case rel => exact ⟨(wrap64 (x7_1 + 1)), rs_, H', ⟨by have := HK1.out; omega⟩, ⟨bg_⟩⟩
      ·replace c6 := Bool.eq_false_iff.mpr c6
       subst c6
       have H1 : (some false) = some r := by rw [if_neg (show ¬ (false = true) by decide)] at H; exact H
       clear H
       have H := H1
       clear H1
       obtain rfl := Option.some.inj H
       have p1001 : 0 ≤ (x7_1 : Int) := od_
       have q1001 : x7_1 < (l0.length : Int) := od_
       obtain ⟨ad1001, e1001, hx1001_0, hx1001_1⟩ := at_T37 HR0.out x7_1 p1001 q1001
       cases e1001
       replace hx1001_0 := kp_ HB hx1001_0
       replace hx1001_1 := kp_ HB hx1001_1
       replace p1001 := eq_true p1001
       replace q1001 := eq_true q1001
       go_wp2_with (first | ((with_reducible refine gate_dst (N := 4) rfl ?_); refine box_event ?hg (N := 4) ?hd (cs := #[.int .i64 0, .int .i64 0]) (t := 37) ?hr ?_; (case hd => rfl); (case hg => rfl); (case hr => first | (go_simp; done) | (go_simp; rfl)); intro gb1002 hg w18 hbox hb; have n0_ := am_ (below_step bl_ hb); have n1_ := am_ (hbox); have n2_ := am_ (gs_ hg : w.heap.size ≤ gb1002); have n3_ := n2_; clear HB; have HB := n0_; have BK1002 := n1_; have GW1002 := n2_; have GE1002 := n3_; clear n0_ n1_ n2_ n3_; clear hb hbox hg; have hcz19_0 := bc2_0 BK1002; have hcz19_1 := bc2_1 BK1002; have hfz19_0 := bf_ BK1002 0; have hfz19_1 := bf_ BK1002 1) | (go_at_call 73; (with_reducible refine (spec_l3Time.calls ((rd_T37 l0 x7_1).f0) false _ A5.out).mono ?_); rintro e w' ⟨rfl, ⟨nd, rfl⟩⟩; (try exact dd_)))
       repeat (go_quiet (first | ((with_reducible refine gate_dst (N := 4) rfl ?_); refine box_event ?hg (N := 4) ?hd (cs := #[.int .i64 0, .int .i64 0]) (t := 37) ?hr ?_; (case hd => rfl); (case hg => rfl); (case hr => first | (go_simp; done) | (go_simp; rfl)); intro gb1002 hg w18 hbox hb; have n0_ := am_ (below_step bl_ hb); have n1_ := am_ (hbox); have n2_ := am_ (gs_ hg : w.heap.size ≤ gb1002); have n3_ := n2_; clear HB; have HB := n0_; have BK1002 := n1_; have GW1002 := n2_; have GE1002 := n3_; clear n0_ n1_ n2_ n3_; clear hb hbox hg; have hcz19_0 := bc2_0 BK1002; have hcz19_1 := bc2_1 BK1002; have hfz19_0 := bf_ BK1002 0; have hfz19_1 := bf_ BK1002 1) | (go_at_call 73; (with_reducible refine (spec_l3Time.calls ((rd_T37 l0 x7_1).f0) false _ A5.out).mono ?_); rintro e w' ⟨rfl, ⟨nd, rfl⟩⟩; (try exact dd_))); try go_wp2_with (first | ((with_reducible refine gate_dst (N := 4) rfl ?_); refine box_event ?hg (N := 4) ?hd (cs := #[.int .i64 0, .int .i64 0]) (t := 37) ?hr ?_; (case hd => rfl); (case hg => rfl); (case hr => first | (go_simp; done) | (go_simp; rfl)); intro gb1002 hg w18 hbox hb; have n0_ := am_ (below_step bl_ hb); have n1_ := am_ (hbox); have n2_ := am_ (gs_ hg : w.heap.size ≤ gb1002); have n3_ := n2_; clear HB; have HB := n0_; have BK1002 := n1_; have GW1002 := n2_; have GE1002 := n3_; clear n0_ n1_ n2_ n3_; clear hb hbox hg; have hcz19_0 := bc2_0 BK1002; have hcz19_1 := bc2_1 BK1002; have hfz19_0 := bf_ BK1002 0; have hfz19_1 := bf_ BK1002 1) | (go_at_call 73; (with_reducible refine (spec_l3Time.calls ((rd_T37 l0 x7_1).f0) false _ A5.out).mono ?_); rintro e w' ⟨rfl, ⟨nd, rfl⟩⟩; (try exact dd_))))
       go_ret
       exact ⟨rf_, bg_⟩
     ·rw [if_neg c4] at H
      exact absurd H (by simp)
    ·rw [if_neg c3] at H
     exact absurd H (by simp)
   ·rw [if_neg c2] at H
    have c2b0 : decide (x7_1 < (l0.length : Int)) = false := decide_eq_false c2
    clear c2
    obtain rfl := Option.some.inj H
    go_wp2
    repeat (go_quiet (fail); try go_wp2)
    go_ret
    exact ⟨rf_, bl_⟩

/-! ### laws_toSample: function 75 -/
def laws_toSample.f (a0_0 : Int) (a0_1 : Int) : Option (Int × Int) := some (a0_0, a0_1)
set_option maxHeartbeats 8000000 in
set_option maxRecDepth 100000 in
theorem laws_toSample.calls (a0_0 : Int) (a0_1 : Int) (r1 : Int) (r2 : Int) (w : World) (h : laws_toSample.f a0_0 a0_1 = some (r1, r2)) :
  Calls Try.prog 75 #[.agg #[.int .i64 a0_0, .int .i64 a0_1]] w fun e w' => e = .returned (.agg #[.int .i64 r1, .int .i64 r2]) ∧ Below w.heap.size w w' := by
 have hu90 := Try.underlying90
 have hu37 := Try.underlying37
 have HB := am_ (Below.refl w.heap.size w)
 have H : (some (a0_0, a0_1)) = some (r1, r2) := h
 clear h
 simp only [Option.some.injEq, Prod.mk.injEq] at H
 obtain ⟨rfl, rfl⟩ := H
 go_enter Try.func75, Try.ntmps75
 go_wp2_with (first | ((with_reducible refine gate_dst (N := 1) rfl ?_); refine box_event ?hg (N := 1) ?hd (cs := #[.int .i64 a0_0, .int .i64 a0_1]) (t := 90) ?hr ?_; (case hd => rfl); (case hg => rfl); (case hr => first | (go_simp; done) | (go_simp; rfl)); intro gb1001 hg w2 hbox hb; have n0_ := am_ (below_step bl_ hb); have n1_ := am_ (hbox); have n2_ := am_ (gs_ hg : w.heap.size ≤ gb1001); have n3_ := n2_; clear HB; have HB := n0_; have BK1001 := n1_; have GW1001 := n2_; have GE1001 := n3_; clear n0_ n1_ n2_ n3_; clear hb hbox hg) | ((with_reducible refine gate_dst (N := 2) rfl ?_); refine box_event ?hg (N := 2) ?hd (cs := #[.int .i64 0, .int .i64 0]) (t := 37) ?hr ?_; (case hd => rfl); (case hg => rfl); (case hr => first | (go_simp; done) | (go_simp; rfl)); intro gb1002 hg w3 hbox hb; have n0_ := am_ (blk_below (g := gb1001) (vk_ BK1001) hb); have n1_ := am_ (below_step bg_ hb); have n2_ := am_ (hbox); have n3_ := am_ (gg_ hg : w.heap.size ≤ gb1002); have n4_ := n3_; have n5_ := am_ ((by rw [hg]; exact Nat.ne_of_lt (blk_lt (g := gb1001) (o := .cells #[.int .i64 a0_0, .int .i64 a0_1] 90 (0, 0)) (vk_ BK1001)) : gb1001 ≠ gb1002)); have n6_ := am_ ((by rw [hg]; exact Nat.ne_of_gt (blk_lt (g := gb1001) (o := .cells #[.int .i64 a0_0, .int .i64 a0_1] 90 (0, 0)) (vk_ BK1001)) : gb1002 ≠ gb1001)); clear BK1001; clear HB; have BK1001 := n0_; have HB := n1_; have BK1002 := n2_; have GW1002 := n3_; have GE1002 := n4_; have NB1001_1002 := n5_; have NB1002_1001 := n6_; clear n0_ n1_ n2_ n3_ n4_ n5_ n6_; clear hb hbox hg) | ((with_reducible refine gate_dst (N := 3) rfl ?_); refine box_event ?hg (N := 3) ?hd (cs := #[.int .i64 0, .int .i64 0]) (t := 37) ?hr ?_; (case hd => rfl); (case hg => rfl); (case hr => first | (go_simp; done) | (go_simp; rfl)); intro gb1003 hg w4 hbox hb; have n0_ := am_ (blk_below (g := gb1001) (vk_ BK1001) hb); have n1_ := am_ (blk_below (g := gb1002) (vk_ BK1002) hb); have n2_ := am_ (below_step bg_ hb); have n3_ := am_ (hbox); have n4_ := am_ (gg_ hg : w.heap.size ≤ gb1003); have n5_ := n4_; have n6_ := am_ ((by rw [hg]; exact Nat.ne_of_lt (blk_lt (g := gb1001) (o := .cells #[.int .i64 a0_0, .int .i64 a0_1] 90 (0, 0)) (vk_ BK1001)) : gb1001 ≠ gb1003)); have n7_ := am_ ((by rw [hg]; exact Nat.ne_of_gt (blk_lt (g := gb1001) (o := .cells #[.int .i64 a0_0, .int .i64 a0_1] 90 (0, 0)) (vk_ BK1001)) : gb1003 ≠ gb1001)); have n8_ := am_ ((by rw [hg]; exact Nat.ne_of_lt (blk_lt (g := gb1002) (o := .cells #[.int .i64 0, .int .i64 0] 37 (0, 0)) (vk_ BK1002)) : gb1002 ≠ gb1003)); have n9_ := am_ ((by rw [hg]; exact Nat.ne_of_gt (blk_lt (g := gb1002) (o := .cells #[.int .i64 0, .int .i64 0] 37 (0, 0)) (vk_ BK1002)) : gb1003 ≠ gb1002)); clear BK1001; clear BK1002; clear HB; have BK1001 := n0_; have BK1002 := n1_; have HB := n2_; have BK1003 := n3_; have GW1003 := n4_; have GE1003 := n5_; have NB1001_1003 := n6_; have NB1003_1001 := n7_; have NB1002_1003 := n8_; have NB1003_1002 := n9_; clear n0_ n1_ n2_ n3_ n4_ n5_ n6_ n7_ n8_ n9_; clear hb hbox hg; have hnb5 := NB1001_1002.out; have hnc5 := NB1002_1001.out; have hnb6 := NB1001_1003.out; have hnc6 := NB1003_1001.out; have hcz7_0 := bc2_0 BK1001; have hcz7_1 := bc2_1 BK1001; have hfz7_0 := bf_ BK1001 0; have hfz7_1 := bf_ BK1001 1; have hnb8 := NB1003_1002.out; have hnc8 := NB1002_1003.out; have hcz9_0 := bc2_0 BK1003; have hcz9_1 := bc2_1 BK1003; have hfz9_0 := bf_ BK1003 0; have hfz9_1 := bf_ BK1003 1; have hcz10_0 := bc2_0 BK1002; have hcz10_1 := bc2_1 BK1002; have hfz10_0 := bf_ BK1002 0; have hfz10_1 := bf_ BK1002 1))
 refine bodyPost_ret (results_cell_row rfl _ _ gb1002 37 #[.int .i64 a0_0, .int .i64 a0_1] (0, 0) _ rfl (by (with_reducible repeat (first | refine blk_drewN ?_ _ | refine blk_drew ?_ | refine blk_alloc ?_ _)); refine blk_put (cs := #[.int .i64 a0_0, .int .i64 0]) ?_ 1 _ rfl; (with_reducible repeat (first | refine blk_drewN ?_ _ | refine blk_drew ?_ | refine blk_alloc ?_ _)); refine blk_put (cs := #[.int .i64 0, .int .i64 0]) ?_ 0 _ rfl; (with_reducible repeat (first | refine blk_drewN ?_ _ | refine blk_drew ?_ | refine blk_alloc ?_ _)); refine blk_far ?_ NB1002_1003.out _; (with_reducible repeat (first | refine blk_drewN ?_ _ | refine blk_drew ?_ | refine blk_alloc ?_ _)); refine blk_far ?_ NB1002_1003.out _; (with_reducible repeat (first | refine blk_drewN ?_ _ | refine blk_drew ?_ | refine blk_alloc ?_ _)); exact BK1002.out) Try.underlying37 rfl (by kernel_rfl)) rfl ?_
 exact ⟨rf_, bg_⟩

/-! ### laws_toSampleS: function 26 -/
def laws_toSampleS.l0 : Nat → List (S90) → List (S37) → Int → Option ((List (S37)))
 | 0, _, _, _ => none
 | k + 1, x0, x3, x4 => if x4 < (x0.length : Int) then (if 0 ≤ x4 then ((laws_toSample.f ((rd_T90 x0 x4).f0) ((rd_T90 x0 x4).f1)).bind fun bt1005 => (if x4 < (x3.length : Int) then (laws_toSampleS.l0 k x0 (x3.set (x4 : Int).toNat (⟨bt1005.1, bt1005.2⟩ : S37)) (wrap64 (x4 + 1))) else (none))) else (none)) else (some x3)
def laws_toSampleS.f (k : Nat) (l0 : List (S90)) : Option ((List (S37))) := if 0 ≤ (l0.length : Int) then (if ((l0.length : Int) : Int).toNat ≤ 17592186044416 then (laws_toSampleS.l0 k l0 (List.replicate ((l0.length : Int) : Int).toNat z37) 0) else (none)) else (none)
theorem laws_toSampleS.mono_l : ∀ k, (∀ y0 y1 y2, LeO (laws_toSampleS.l0 k y0 y1 y2) (laws_toSampleS.l0 (k + 1) y0 y1 y2))
 | 0 => fun _ _ _ r h => by simp [laws_toSampleS.l0] at h
 | k + 1 => by
  have ih0 := laws_toSampleS.mono_l k
  ·intro y0 y1 y2
   unfold laws_toSampleS.l0
   repeat' first
   | with_reducible first | exact ih0 _ _ _ | exact LeO.refl _ | exact LeO.none _ | refine LeO.ite ?_ ?_ | refine LeO.bind ?_ (fun _ => ?_)
   | exact ih0 _ _ _
   | exact LeO.none _
   | refine LeO.ite ?_ ?_
   | refine LeO.bind ?_ (fun _ => ?_)
theorem laws_toSampleS.mono : ∀ a0 k, LeO (laws_toSampleS.f k a0) (laws_toSampleS.f (k + 1) a0) := by
 intro a0 k
 have ih0 := laws_toSampleS.mono_l k
 unfold laws_toSampleS.f
 repeat' first
   | with_reducible first | exact ih0 _ _ _ | exact LeO.refl _ | exact LeO.none _ | refine LeO.ite ?_ ?_ | refine LeO.bind ?_ (fun _ => ?_)
   | exact ih0 _ _ _
   | exact LeO.none _
   | refine LeO.ite ?_ ?_
   | refine LeO.bind ?_ (fun _ => ?_)
set_option maxHeartbeats 8000000 in
set_option maxRecDepth 100000 in
theorem laws_toSampleS.calls (k : Nat) (A0 : Option Addr) (c0 : Nat) (l0 : List (S90)) (r : List (S37)) (w : World) (hr0 : Kd.C k90 w A0 l0.length l0) (hc0 : l0.length ≤ c0) (h : laws_toSampleS.f k l0 = some r) :
  Calls Try.prog 26 #[.slice A0 l0.length c0] w fun e w' => ∃ v0_ : Value, e = .returned (v0_) ∧ Kd.R k37 37 w' w.heap.size (fun _ => True) v0_ r ∧ Below w.heap.size w w' := by
 have hu90 := Try.underlying90
 have hu37 := Try.underlying37
 have HR0 := am_ hr0
 have HC0 := am_ hc0
 clear hr0 hc0
 have HB := am_ (Below.refl w.heap.size w)
 have H : (if 0 ≤ (l0.length : Int) then (if ((l0.length : Int) : Int).toNat ≤ 17592186044416 then (laws_toSampleS.l0 k l0 (List.replicate ((l0.length : Int) : Int).toNat z37) 0) else (none)) else (none)) = some r := h
 clear h
 by_cases c2 : 0 ≤ (l0.length : Int)
 ·rw [if_pos c2] at H
  have c2b0 := eq_true c2
  have c2b1 : decide (0 ≤ (l0.length : Int)) = true := decide_eq_true c2
  clear c2
  by_cases c3 : ((l0.length : Int) : Int).toNat ≤ 17592186044416
  ·rw [if_pos c3] at H
   have c3b0 := eq_true c3
   have c3b1 : decide (((l0.length : Int) : Int).toNat ≤ 17592186044416) = true := decide_eq_true c3
   clear c3
   obtain ⟨y1001, hy1001⟩ : ∃ y_ : List (S37), y_ = (List.replicate ((l0.length : Int) : Int).toNat z37) := ⟨_, rfl⟩
   replace H : (laws_toSampleS.l0 k l0 y1001 0) = some r := by first | (rw [hy1001]; with_reducible exact H) | (have H2_ := (Option.bind_some _ _).symm.trans H; rw [hy1001]; with_reducible exact H2_) | (have H2_ := (Option.bind_some _ _).symm.trans H; with_reducible exact H2_) | with_reducible exact H | (rw [hy1001]; exact H) | exact H
   have Ny1001 := am_ hy1001
   clear hy1001
   have H' := am_ H
   clear H
   go_enter Try.func26, Try.ntmps26
   go_wp2_with (first | ((with_reducible refine gate_dst (N := 7) rfl ?_); refine Kd.R_make k37 _ 37 rfl (N := 7) rfl 40 _ _ rfl (l0.length : Int) rfl rfl Try.underlying40 (.agg #[(.int .i64 0), (.int .i64 0)]) 16 info37 rfl (by decide) (by omega) z37 (ok := fun _ => True) (okp := fun _ => True) (k37_mkM _ _ _ z37 ) (fun _ hk => hk) trivial (od_) (Nat.le_trans (Nat.mul_le_mul_right _ (od_ : (l0.length : Int).toNat ≤ 17592186044416)) (by omega)) (Below.refl _ _) (Nat.le_refl _) ?_; intro v1002 w4 ho5 hb hg_ hnew_; clear hg_ hnew_; (first | rw [← Ny1001.out] at ho5 | (simp only [Int.reduceToNat] at ho5; rw [← Ny1001.out] at ho5)); have n0_ := am_ (Kd.R_lower ho5 (below_size bl_)); have n1_ := am_ (below_step bl_ hb); clear HB; have HO1003 := n0_; have HB := n1_; clear n0_ n1_; clear hb ho5))
   go_loopg [4] k (fun kq v4 w' => ∃ (x3_1 : List (S37)) (x4_1 : Int), v4 = .int .i64 x4_1 ∧ Aside0 (laws_toSampleS.l0 kq l0 x3_1 x4_1 = some r) ∧ Aside0 (kq ≤ k) ∧ Aside0 (Kd.R k37 37 w' w.heap.size (fun _ => True) v1002 x3_1) ∧ Aside0 (Below w.heap.size w w'))
   case atStart => exact ⟨(y1001), (0), rs_, H', ⟨Nat.le_refl _⟩, ⟨ro_ HO1003⟩, ⟨bl_⟩⟩
   case round =>
    clear H'
    try clear c2
    try clear c2b0
    try clear c2b1
    try clear p2
    try clear c3
    try clear c3b0
    try clear c3b1
    obtain ⟨x3_1, x4_1, rfl, HA, HK1, HO_3, HB⟩ := hrel
    cases gk with
    | zero => exact absurd HA.out (by simp [laws_toSampleS.l0])
    | succ k1 =>
     have H := HA.out
     clear HA
     simp only [laws_toSampleS.l0] at H
     by_cases c6 : x4_1 < (l0.length : Int)
     ·rw [if_pos c6] at H
      have c6b0 : decide (x4_1 < (l0.length : Int)) = true := decide_eq_true c6
      clear c6
      by_cases c7 : 0 ≤ x4_1
      ·rw [if_pos c7] at H
       have c7b0 : decide (0 ≤ x4_1) = true := decide_eq_true c7
       clear c7
       replace H := Option.bind_eq_some_iff.mp H
       obtain ⟨⟨t1005, t1006⟩, A80, H⟩ := H
       replace H : (if x4_1 < (x3_1.length : Int) then (laws_toSampleS.l0 k1 l0 (x3_1.set (x4_1 : Int).toNat (⟨t1005, t1006⟩ : S37)) (wrap64 (x4_1 + 1))) else (none)) = some r := H
       have A8 := am_ A80
       clear A80
       by_cases c9 : x4_1 < (x3_1.length : Int)
       ·rw [if_pos c9] at H
        have c9b0 : decide (x4_1 < (x3_1.length : Int)) = true := decide_eq_true c9
        clear c9
        obtain ⟨y1007, hy1007⟩ : ∃ y_ : List (S37), y_ = (x3_1.set (x4_1 : Int).toNat (⟨t1005, t1006⟩ : S37)) := ⟨_, rfl⟩
        replace H : (laws_toSampleS.l0 k1 l0 y1007 (wrap64 (x4_1 + 1))) = some r := by first | (rw [hy1007]; with_reducible exact H) | (have H2_ := (Option.bind_some _ _).symm.trans H; rw [hy1007]; with_reducible exact H2_) | (have H2_ := (Option.bind_some _ _).symm.trans H; with_reducible exact H2_) | with_reducible exact H | (rw [hy1007]; exact H) | exact H
        have Ny1007 := am_ hy1007
        clear hy1007
        have H' := am_ H
        clear H
        have p1004 : 0 ≤ (x4_1 : Int) := od_
        have q1004 : x4_1 < (l0.length : Int) := od_
        obtain ⟨ad1004, e1004, hx1004_0, hx1004_1⟩ := at_T90 HR0.out x4_1 p1004 q1004
        cases e1004
        replace hx1004_0 := kp_ HB hx1004_0
        replace hx1004_1 := kp_ HB hx1004_1
        replace p1004 := eq_true p1004
        replace q1004 := eq_true q1004
        go_wp2_with (first | ((with_reducible refine gate_callee (f := 75) rfl ?_); refine goesL_ (some 20) rfl rfl Try.func75 (by kernel_rfl) rfl #[.agg #[.int .i64 ((rd_T90 l0 x4_1).f0), .int .i64 ((rd_T90 l0 x4_1).f1)]] rfl ag_ ?_; (with_reducible refine (laws_toSample.calls ((rd_T90 l0 x4_1).f0) ((rd_T90 l0 x4_1).f1) t1005 t1006 _ A8.out).mono ?_); rintro e w11 ⟨rfl, hb⟩; refine ⟨_, rfl, ?_⟩; have n0_ := am_ (Kd.R_below (ro_ HO_3) hb); have n1_ := am_ (below_step bl_ hb); clear HO_3; clear HB; have HO_3 := n0_; have HB := n1_; clear n0_ n1_; (try clear hb); (try clear hb2); (try clear hk); (try clear hi); have p10 : 0 ≤ (x4_1 : Int) := od_; have q10 : (x4_1 : Int) < ((x3_1.length : Int) : Int) := od_; obtain ⟨go10, co10, eo10, gb10, gl10, cl10, HG10⟩ := Kd.R_form HO_3.out (by omega); (first | cases eo10 | (injection eo10 with ea_ en_ ec_; (first | subst ea_ | (injection ea_ with ea_; subst ea_)); subst ec_; clear en_)); have GB10 := am_ gb10; have GG10 := am_ HG10; clear gb10 gl10 HG10; obtain ⟨ce10, hcl10, hM10, hcc10, hfr10⟩ := Kd.R_elem HO_3.out z37 (x4_1 : Int) p10 q10; obtain rfl := k37_openM hM10; have hx10_0 : w11.cell? ⟨go10, (x4_1 : Int).toNat * 2, none⟩ = some (.int .i64 ((rd_T37 x3_1 x4_1).f0)) := hcc10 0 _ rfl; have hx10_1 : w11.cell? ⟨go10, (x4_1 : Int).toNat * 2 + 1, none⟩ = some (.int .i64 ((rd_T37 x3_1 x4_1).f1)) := hcc10 1 _ rfl; have hf10_0 : w11.frozen? ⟨go10, (x4_1 : Int).toNat * 2, none⟩ = false := hfr10 0; have hf10_1 : w11.frozen? ⟨go10, (x4_1 : Int).toNat * 2 + 1, none⟩ = false := hfr10 1; clear hcl10 hcc10 hfr10 hM10; replace p10 := eq_true p10; replace q10 := eq_true q10; have HX12 := am_ (show Kd.R k37 37 w11 w.heap.size (fun _ => True) (.slice (some ⟨go10, 0, none⟩) x3_1.length co10) x3_1 from (ro_ HO_3)); obtain ⟨ce12, hcl12, hM12, hcc12, hfr12⟩ := Kd.R_elem HX12.out z37 (x4_1 : Int) (od_) (by have h_ : (x4_1 : Int) < ((x3_1.length : Int) : Int) := od_; first | exact h_ | (have e_ := (Kd.R_reads' HO_3.out).1; omega) | simpa using h_); obtain rfl := k37_openM hM12; have HP12 := Kd.R_seg HX12.out (x4_1 : Int) (od_) (by have h_ : (x4_1 : Int) < ((x3_1.length : Int) : Int) := od_; first | exact h_ | (have e_ := (Kd.R_reads' HO_3.out).1; omega) | simpa using h_) (seg := [.int .i64 t1005, .int .i64 t1006]) (j := 0) hcl12 hcc12 (show 2 ≤ 2 from by decide) (x' := (⟨t1005, t1006⟩ : S37)) (k37_mkM _ _ _ (⟨t1005, t1006⟩ : S37) ) (fun _ hk => hk); have hx12_0 := hcc12 0 _ rfl; (try simp only [show (k37).sz = 2 from rfl, Nat.mul_one, Nat.add_zero] at hx12_0); have hf12_0 := hfr12 0; (try simp only [show (k37).sz = 2 from rfl, Nat.mul_one, Nat.add_zero] at hf12_0); have hx12_1 := hcc12 1 _ rfl; (try simp only [show (k37).sz = 2 from rfl, Nat.mul_one, Nat.add_zero] at hx12_1); have hf12_1 := hfr12 1; (try simp only [show (k37).sz = 2 from rfl, Nat.mul_one, Nat.add_zero] at hf12_1); clear hcl12 hcc12 hfr12 hM12) | ((with_reducible refine gate_store (t := 37) (p := 21) rfl ?_); refine store_event (t := 37) (p := 21) (v := ?vo_w13) (w1 := ((w11.setCell ⟨go10, (x4_1 : Int).toNat * 2, none⟩ (.int .i64 t1005)).setCell ⟨go10, (x4_1 : Int).toNat * 2 + 1, none⟩ (.int .i64 t1006))) ?hg ?ho ?hn ?hr ?_; (case ho => rfl); (case hg => rfl); (case hn => rfl); (case hr => first | (go_simp; done) | (go_simp; rfl) | ((try (obtain ⟨_, _, e_⟩ := Kd.R_slice HO1003.out; subst e_)); go_simp; first | done | rfl)); intro w13 hw; have hg : w11.grownBy w13 (some go10) := (by rw [hw]; exact HP12.2); have hp_ : Kd.R k37 37 w13 w.heap.size (fun _ => True) (.slice (some ⟨go10, 0, none⟩) x3_1.length co10) y1007 := (by rw [hw, Ny1007.out]; exact HP12.1); clear HP12; have n0_ := am_ (hp_); have n1_ := am_ ((by rw [hw]; exact below_set (below_set (HB.out) GB10.out) GB10.out : Below w.heap.size w w13)); clear HO_3; clear HB; have HO_3 := n0_; have HB := n1_; clear n0_ n1_; clear hg hw hp_))
        go_roundg k1
        case measure => have := HK1.out; omega
        case rel => exact ⟨(y1007), (wrap64 (x4_1 + 1)), rs_, H', ⟨by have := HK1.out; omega⟩, ⟨ro_ HO_3⟩, ⟨bl_⟩⟩
       ·rw [if_neg c9] at H
        exact absurd H (by simp)
      ·rw [if_neg c7] at H
       exact absurd H (by simp)
     ·rw [if_neg c6] at H
      have c6b0 : decide (x4_1 < (l0.length : Int)) = false := decide_eq_false c6
      clear c6
      obtain rfl := Option.some.inj H
      go_wp2
      go_ret
      exact ⟨_, rf_, by (with_reducible repeat (first | apply Kd.R_alloc | apply Kd.R_drewN | apply Kd.R_drew)); exact HO_3.out, bl_⟩
  ·rw [if_neg c3] at H
   exact absurd H (by simp)
 ·rw [if_neg c2] at H
  exact absurd H (by simp)

/-! ### impl_GoodSamples: function 76 -/
def impl_GoodSamples.l0 : Nat → List (S37) → List (S37) → Int → Int → Option (Bool)
 | 0, _, _, _, _ => none
 | k + 1, x0, x8, x9, x10 => if x10 < x9 then (if 0 ≤ x10 then (if x10 < (x8.length : Int) then ((impl_isTime.f ((rd_T37 x8 x10).f0)).bind fun t1003 => (if t1003 = true then (if x10 > 0 then (if 0 ≤ (wrap64 (x10 - 1)) then (if (wrap64 (x10 - 1)) < (x0.length : Int) then (if ((rd_T37 x0 (wrap64 (x10 - 1))).f0) ≥ ((rd_T37 x8 x10).f0) then (some false) else (impl_GoodSamples.l0 k x0 x8 x9 (wrap64 (x10 + 1)))) else (none)) else (none)) else (impl_GoodSamples.l0 k x0 x8 x9 (wrap64 (x10 + 1)))) else (some false))) else (none)) else (none)) else (some true)
def impl_GoodSamples.f (k : Nat) (l0 : List (S37)) : Option (Bool) := if (l0.length : Int) > 2000 then (some false) else (impl_GoodSamples.l0 k l0 l0 (l0.length : Int) 0)
theorem impl_GoodSamples.mono_l : ∀ k, (∀ y0 y1 y2 y3, LeO (impl_GoodSamples.l0 k y0 y1 y2 y3) (impl_GoodSamples.l0 (k + 1) y0 y1 y2 y3))
 | 0 => fun _ _ _ _ r h => by simp [impl_GoodSamples.l0] at h
 | k + 1 => by
  have ih0 := impl_GoodSamples.mono_l k
  ·intro y0 y1 y2 y3
   unfold impl_GoodSamples.l0
   repeat' first
   | with_reducible first | exact ih0 _ _ _ _ | exact LeO.refl _ | exact LeO.none _ | refine LeO.ite ?_ ?_ | refine LeO.bind ?_ (fun _ => ?_)
   | exact ih0 _ _ _ _
   | exact LeO.none _
   | refine LeO.ite ?_ ?_
   | refine LeO.bind ?_ (fun _ => ?_)
theorem impl_GoodSamples.mono : ∀ a0 k, LeO (impl_GoodSamples.f k a0) (impl_GoodSamples.f (k + 1) a0) := by
 intro a0 k
 have ih0 := impl_GoodSamples.mono_l k
 unfold impl_GoodSamples.f
 repeat' first
   | with_reducible first | exact ih0 _ _ _ _ | exact LeO.refl _ | exact LeO.none _ | refine LeO.ite ?_ ?_ | refine LeO.bind ?_ (fun _ => ?_)
   | exact ih0 _ _ _ _
   | exact LeO.none _
   | refine LeO.ite ?_ ?_
   | refine LeO.bind ?_ (fun _ => ?_)
set_option maxHeartbeats 8000000 in
set_option maxRecDepth 100000 in
theorem impl_GoodSamples.calls (k : Nat) (A0 : Option Addr) (c0 : Nat) (l0 : List (S37)) (r : Bool) (w : World) (hr0 : Kd.C k37 w A0 l0.length l0) (hc0 : l0.length ≤ c0) (h : impl_GoodSamples.f k l0 = some r) :
  Calls Try.prog 76 #[.slice A0 l0.length c0] w fun e w' => e = .returned (.bool r) ∧ Below w.heap.size w w' := by
 have hu37 := Try.underlying37
 have HR0 := am_ hr0
 have HC0 := am_ hc0
 clear hr0 hc0
 have HB := am_ (Below.refl w.heap.size w)
 have H : (if (l0.length : Int) > 2000 then (some false) else (impl_GoodSamples.l0 k l0 l0 (l0.length : Int) 0)) = some r := h
 clear h
 by_cases c2 : (l0.length : Int) > 2000
 ·rw [if_pos c2] at H
  have c2b0 : decide (2000 < (l0.length : Int)) = true := decide_eq_true c2
  have c2b1 : decide (2000 < l0.length) = true := decide_eq_true (by omega)
  clear c2
  obtain rfl := Option.some.inj H
  go_enter Try.func76, Try.ntmps76
  go_wp2
  repeat (go_quiet (fail); try go_wp2)
  go_ret
  exact ⟨rf_, bl_⟩
 ·rw [if_neg c2] at H
  have c2b0 : decide (2000 < (l0.length : Int)) = false := decide_eq_false c2
  have c2b1 : decide (2000 < l0.length) = false := decide_eq_false (by omega)
  clear c2
  have H' := am_ H
  clear H
  go_enter Try.func76, Try.ntmps76
  go_wp2
  repeat (go_quiet (fail); try go_wp2)
  go_loopg [10] k (fun kq v10 w' => ∃ (x10_1 : Int), v10 = .int .i64 x10_1 ∧ Aside0 (impl_GoodSamples.l0 kq l0 l0 (l0.length : Int) x10_1 = some r) ∧ Aside0 (kq ≤ k) ∧ Aside0 (Below w.heap.size w w'))
  case atStart => exact ⟨(0), rs_, H', ⟨Nat.le_refl _⟩, ⟨bl_⟩⟩
  case round =>
   clear H'
   try clear c2
   try clear c2b0
   try clear c2b1
   try clear p2
   obtain ⟨x10_1, rfl, HA, HK1, HB⟩ := hrel
   cases gk with
   | zero => exact absurd HA.out (by simp [impl_GoodSamples.l0])
   | succ k1 =>
    have H := HA.out
    clear HA
    simp only [impl_GoodSamples.l0] at H
    by_cases c3 : x10_1 < (l0.length : Int)
    ·rw [if_pos c3] at H
     have c3b0 : decide (x10_1 < (l0.length : Int)) = true := decide_eq_true c3
     clear c3
     by_cases c4 : 0 ≤ x10_1
     ·rw [if_pos c4] at H
      have c4b0 : decide (0 ≤ x10_1) = true := decide_eq_true c4
      clear c4
      by_cases c5 : x10_1 < (l0.length : Int)
      ·rw [if_pos c5] at H
       have c5b0 : decide (x10_1 < (l0.length : Int)) = true := decide_eq_true c5
       clear c5
       replace H := Option.bind_eq_some_iff.mp H
       obtain ⟨t1003, A60, H⟩ := H
       replace H : (if t1003 = true then (if x10_1 > 0 then (if 0 ≤ (wrap64 (x10_1 - 1)) then (if (wrap64 (x10_1 - 1)) < (l0.length : Int) then (if ((rd_T37 l0 (wrap64 (x10_1 - 1))).f0) ≥ ((rd_T37 l0 x10_1).f0) then (some false) else (impl_GoodSamples.l0 k1 l0 l0 (l0.length : Int) (wrap64 (x10_1 + 1)))) else (none)) else (none)) else (impl_GoodSamples.l0 k1 l0 l0 (l0.length : Int) (wrap64 (x10_1 + 1)))) else (some false)) = some r := H
       have A6 := am_ A60
       clear A60
       by_cases c7 : t1003 = true
       ·subst c7
        have H1 : (if x10_1 > 0 then (if 0 ≤ (wrap64 (x10_1 - 1)) then (if (wrap64 (x10_1 - 1)) < (l0.length : Int) then (if ((rd_T37 l0 (wrap64 (x10_1 - 1))).f0) ≥ ((rd_T37 l0 x10_1).f0) then (some false) else (impl_GoodSamples.l0 k1 l0 l0 (l0.length : Int) (wrap64 (x10_1 + 1)))) else (none)) else (none)) else (impl_GoodSamples.l0 k1 l0 l0 (l0.length : Int) (wrap64 (x10_1 + 1)))) = some r := by rw [if_pos rfl] at H; exact H
        clear H
        have H := H1
        clear H1
        by_cases c8 : x10_1 > 0
        ·rw [if_pos c8] at H
         have c8b0 : decide (0 < x10_1) = true := decide_eq_true c8
         clear c8
         obtain ⟨ji9, hji9⟩ : ∃ j_ : Int, (wrap64 (x10_1 - 1)) = j_ := ⟨_, rfl⟩
         replace H : (if 0 ≤ (ji9) then (if (ji9) < (l0.length : Int) then (if ((rd_T37 l0 (ji9)).f0) ≥ ((rd_T37 l0 x10_1).f0) then (some false) else (impl_GoodSamples.l0 k1 l0 l0 (l0.length : Int) (wrap64 (x10_1 + 1)))) else (none)) else (none)) = some r := by first | (rw [hji9] at H; exact H) | (simp only [hji9] at H ⊢; exact H)
         (try rw [hji9] at A6)
         have hji9w : (IntKind.i64.wrap (x10_1 - 1)) = ji9 := (i64_w _).trans hji9
         by_cases c10 : 0 ≤ (ji9)
         ·rw [if_pos c10] at H
          have c10b0 : decide (0 ≤ (ji9)) = true := decide_eq_true c10
          clear c10
          by_cases c11 : (ji9) < (l0.length : Int)
          ·rw [if_pos c11] at H
           have c11b0 : decide ((ji9) < (l0.length : Int)) = true := decide_eq_true c11
           clear c11
           by_cases c12 : ((rd_T37 l0 (ji9)).f0) ≥ ((rd_T37 l0 x10_1).f0)
           ·rw [if_pos c12] at H
            have c12b0 : decide (((rd_T37 l0 x10_1).f0) ≤ ((rd_T37 l0 (ji9)).f0)) = true := decide_eq_true c12
            clear c12
            obtain rfl := Option.some.inj H
            have p1001 : 0 ≤ (x10_1 : Int) := od_
            have q1001 : x10_1 < (l0.length : Int) := od_
            obtain ⟨ad1001, e1001, hx1001_0, hx1001_1⟩ := at_T37 HR0.out x10_1 p1001 q1001
            cases e1001
            replace hx1001_0 := kp_ HB hx1001_0
            replace hx1001_1 := kp_ HB hx1001_1
            replace p1001 := eq_true p1001
            replace q1001 := eq_true q1001
            go_wp2_with (first | ((with_reducible refine gate_dst (N := 4) rfl ?_); refine box_event ?hg (N := 4) ?hd (cs := #[.int .i64 0, .int .i64 0]) (t := 37) ?hr ?_; (case hd => rfl); (case hg => rfl); (case hr => first | (go_simp; done) | (go_simp; rfl)); intro gb1002 hg w13 hbox hb; have n0_ := am_ (below_step bl_ hb); have n1_ := am_ (hbox); have n2_ := am_ (gs_ hg : w.heap.size ≤ gb1002); have n3_ := n2_; clear HB; have HB := n0_; have BK1002 := n1_; have GW1002 := n2_; have GE1002 := n3_; clear n0_ n1_ n2_ n3_; clear hb hbox hg; have hcz14_0 := bc2_0 BK1002; have hcz14_1 := bc2_1 BK1002; have hfz14_0 := bf_ BK1002 0; have hfz14_1 := bf_ BK1002 1) | (go_at_call 77; (with_reducible refine (impl_isTime.calls ((rd_T37 l0 x10_1).f0) true _ A6.out).mono ?_); rintro e w' ⟨rfl, ⟨nd, rfl⟩⟩; (try exact dd_); have p1004 : 0 ≤ ((ji9) : Int) := od_; have q1004 : (ji9) < (l0.length : Int) := od_; obtain ⟨ad1004, e1004, hx1004_0, hx1004_1⟩ := at_T37 HR0.out (ji9) p1004 q1004; obtain rfl : ad1001 = ad1004 := (by injection e1004); have hn1004_0 : ad1001.block ≠ gb1002 := hb_ hx1004_0 GW1002; have hn1004_1 : ad1001.block ≠ gb1002 := hb_ hx1004_0 GW1002; replace hx1004_0 := kp_ HB hx1004_0; replace hx1004_1 := kp_ HB hx1004_1; replace hx1004_0 := cf_ gb1002 0 hn1004_0 (.int .i64 ((rd_T37 l0 x10_1).f0)) hx1004_0; replace hx1004_1 := cf_ gb1002 0 hn1004_0 (.int .i64 ((rd_T37 l0 x10_1).f0)) hx1004_1; replace hx1004_0 := cf_ gb1002 1 hn1004_1 (.int .i64 ((rd_T37 l0 x10_1).f1)) hx1004_0; replace hx1004_1 := cf_ gb1002 1 hn1004_1 (.int .i64 ((rd_T37 l0 x10_1).f1)) hx1004_1; (try have hy1004_0 := fun (n_ : Nat) => (show ((((w13.drewN n_).setCell ⟨gb1002, 0, none⟩ (.int .i64 ((rd_T37 l0 x10_1).f0))).setCell ⟨gb1002, 1, none⟩ (.int .i64 ((rd_T37 l0 x10_1).f1)))).cell? _ = some _ from hx1004_0)); (try have hy1004_1 := fun (n_ : Nat) => (show ((((w13.drewN n_).setCell ⟨gb1002, 0, none⟩ (.int .i64 ((rd_T37 l0 x10_1).f0))).setCell ⟨gb1002, 1, none⟩ (.int .i64 ((rd_T37 l0 x10_1).f1)))).cell? _ = some _ from hx1004_1)); clear hn1004_0; clear hn1004_1; replace p1004 := eq_true p1004; replace q1004 := eq_true q1004))
            repeat (go_quiet (first | ((with_reducible refine gate_dst (N := 4) rfl ?_); refine box_event ?hg (N := 4) ?hd (cs := #[.int .i64 0, .int .i64 0]) (t := 37) ?hr ?_; (case hd => rfl); (case hg => rfl); (case hr => first | (go_simp; done) | (go_simp; rfl)); intro gb1002 hg w13 hbox hb; have n0_ := am_ (below_step bl_ hb); have n1_ := am_ (hbox); have n2_ := am_ (gs_ hg : w.heap.size ≤ gb1002); have n3_ := n2_; clear HB; have HB := n0_; have BK1002 := n1_; have GW1002 := n2_; have GE1002 := n3_; clear n0_ n1_ n2_ n3_; clear hb hbox hg; have hcz14_0 := bc2_0 BK1002; have hcz14_1 := bc2_1 BK1002; have hfz14_0 := bf_ BK1002 0; have hfz14_1 := bf_ BK1002 1) | (go_at_call 77; (with_reducible refine (impl_isTime.calls ((rd_T37 l0 x10_1).f0) true _ A6.out).mono ?_); rintro e w' ⟨rfl, ⟨nd, rfl⟩⟩; (try exact dd_); have p1004 : 0 ≤ ((ji9) : Int) := od_; have q1004 : (ji9) < (l0.length : Int) := od_; obtain ⟨ad1004, e1004, hx1004_0, hx1004_1⟩ := at_T37 HR0.out (ji9) p1004 q1004; obtain rfl : ad1001 = ad1004 := (by injection e1004); have hn1004_0 : ad1001.block ≠ gb1002 := hb_ hx1004_0 GW1002; have hn1004_1 : ad1001.block ≠ gb1002 := hb_ hx1004_0 GW1002; replace hx1004_0 := kp_ HB hx1004_0; replace hx1004_1 := kp_ HB hx1004_1; replace hx1004_0 := cf_ gb1002 0 hn1004_0 (.int .i64 ((rd_T37 l0 x10_1).f0)) hx1004_0; replace hx1004_1 := cf_ gb1002 0 hn1004_0 (.int .i64 ((rd_T37 l0 x10_1).f0)) hx1004_1; replace hx1004_0 := cf_ gb1002 1 hn1004_1 (.int .i64 ((rd_T37 l0 x10_1).f1)) hx1004_0; replace hx1004_1 := cf_ gb1002 1 hn1004_1 (.int .i64 ((rd_T37 l0 x10_1).f1)) hx1004_1; (try have hy1004_0 := fun (n_ : Nat) => (show ((((w13.drewN n_).setCell ⟨gb1002, 0, none⟩ (.int .i64 ((rd_T37 l0 x10_1).f0))).setCell ⟨gb1002, 1, none⟩ (.int .i64 ((rd_T37 l0 x10_1).f1)))).cell? _ = some _ from hx1004_0)); (try have hy1004_1 := fun (n_ : Nat) => (show ((((w13.drewN n_).setCell ⟨gb1002, 0, none⟩ (.int .i64 ((rd_T37 l0 x10_1).f0))).setCell ⟨gb1002, 1, none⟩ (.int .i64 ((rd_T37 l0 x10_1).f1)))).cell? _ = some _ from hx1004_1)); clear hn1004_0; clear hn1004_1; replace p1004 := eq_true p1004; replace q1004 := eq_true q1004)); try go_wp2_with (first | ((with_reducible refine gate_dst (N := 4) rfl ?_); refine box_event ?hg (N := 4) ?hd (cs := #[.int .i64 0, .int .i64 0]) (t := 37) ?hr ?_; (case hd => rfl); (case hg => rfl); (case hr => first | (go_simp; done) | (go_simp; rfl)); intro gb1002 hg w13 hbox hb; have n0_ := am_ (below_step bl_ hb); have n1_ := am_ (hbox); have n2_ := am_ (gs_ hg : w.heap.size ≤ gb1002); have n3_ := n2_; clear HB; have HB := n0_; have BK1002 := n1_; have GW1002 := n2_; have GE1002 := n3_; clear n0_ n1_ n2_ n3_; clear hb hbox hg; have hcz14_0 := bc2_0 BK1002; have hcz14_1 := bc2_1 BK1002; have hfz14_0 := bf_ BK1002 0; have hfz14_1 := bf_ BK1002 1) | (go_at_call 77; (with_reducible refine (impl_isTime.calls ((rd_T37 l0 x10_1).f0) true _ A6.out).mono ?_); rintro e w' ⟨rfl, ⟨nd, rfl⟩⟩; (try exact dd_); have p1004 : 0 ≤ ((ji9) : Int) := od_; have q1004 : (ji9) < (l0.length : Int) := od_; obtain ⟨ad1004, e1004, hx1004_0, hx1004_1⟩ := at_T37 HR0.out (ji9) p1004 q1004; obtain rfl : ad1001 = ad1004 := (by injection e1004); have hn1004_0 : ad1001.block ≠ gb1002 := hb_ hx1004_0 GW1002; have hn1004_1 : ad1001.block ≠ gb1002 := hb_ hx1004_0 GW1002; replace hx1004_0 := kp_ HB hx1004_0; replace hx1004_1 := kp_ HB hx1004_1; replace hx1004_0 := cf_ gb1002 0 hn1004_0 (.int .i64 ((rd_T37 l0 x10_1).f0)) hx1004_0; replace hx1004_1 := cf_ gb1002 0 hn1004_0 (.int .i64 ((rd_T37 l0 x10_1).f0)) hx1004_1; replace hx1004_0 := cf_ gb1002 1 hn1004_1 (.int .i64 ((rd_T37 l0 x10_1).f1)) hx1004_0; replace hx1004_1 := cf_ gb1002 1 hn1004_1 (.int .i64 ((rd_T37 l0 x10_1).f1)) hx1004_1; (try have hy1004_0 := fun (n_ : Nat) => (show ((((w13.drewN n_).setCell ⟨gb1002, 0, none⟩ (.int .i64 ((rd_T37 l0 x10_1).f0))).setCell ⟨gb1002, 1, none⟩ (.int .i64 ((rd_T37 l0 x10_1).f1)))).cell? _ = some _ from hx1004_0)); (try have hy1004_1 := fun (n_ : Nat) => (show ((((w13.drewN n_).setCell ⟨gb1002, 0, none⟩ (.int .i64 ((rd_T37 l0 x10_1).f0))).setCell ⟨gb1002, 1, none⟩ (.int .i64 ((rd_T37 l0 x10_1).f1)))).cell? _ = some _ from hx1004_1)); clear hn1004_0; clear hn1004_1; replace p1004 := eq_true p1004; replace q1004 := eq_true q1004)))
            go_ret
            exact ⟨by first | rfl | (simp [errW_none, errW_some] <;> rfl) | (simp only [← hji9]; first | rfl | (simp [errW_none, errW_some] <;> rfl)) | (simp [*, errW_none, errW_some] <;> rfl) | (simp [*, Go.Proofs.Ytjapdjkckhcelaa.Gt.nil_bne]; done), bg_⟩
           ·rw [if_neg c12] at H
            have c12b0 : decide (((rd_T37 l0 x10_1).f0) ≤ ((rd_T37 l0 (ji9)).f0)) = false := decide_eq_false c12
            clear c12
            have H' := am_ H
            clear H
            have p1001 : 0 ≤ (x10_1 : Int) := od_
            have q1001 : x10_1 < (l0.length : Int) := od_
            obtain ⟨ad1001, e1001, hx1001_0, hx1001_1⟩ := at_T37 HR0.out x10_1 p1001 q1001
            cases e1001
            replace hx1001_0 := kp_ HB hx1001_0
            replace hx1001_1 := kp_ HB hx1001_1
            replace p1001 := eq_true p1001
            replace q1001 := eq_true q1001
            go_wp2_with (first | ((with_reducible refine gate_dst (N := 4) rfl ?_); refine box_event ?hg (N := 4) ?hd (cs := #[.int .i64 0, .int .i64 0]) (t := 37) ?hr ?_; (case hd => rfl); (case hg => rfl); (case hr => first | (go_simp; done) | (go_simp; rfl)); intro gb1002 hg w15 hbox hb; have n0_ := am_ (below_step bl_ hb); have n1_ := am_ (hbox); have n2_ := am_ (gs_ hg : w.heap.size ≤ gb1002); have n3_ := n2_; clear HB; have HB := n0_; have BK1002 := n1_; have GW1002 := n2_; have GE1002 := n3_; clear n0_ n1_ n2_ n3_; clear hb hbox hg; have hcz16_0 := bc2_0 BK1002; have hcz16_1 := bc2_1 BK1002; have hfz16_0 := bf_ BK1002 0; have hfz16_1 := bf_ BK1002 1) | (go_at_call 77; (with_reducible refine (impl_isTime.calls ((rd_T37 l0 x10_1).f0) true _ A6.out).mono ?_); rintro e w' ⟨rfl, ⟨nd, rfl⟩⟩; (try exact dd_); have p1004 : 0 ≤ ((ji9) : Int) := od_; have q1004 : (ji9) < (l0.length : Int) := od_; obtain ⟨ad1004, e1004, hx1004_0, hx1004_1⟩ := at_T37 HR0.out (ji9) p1004 q1004; obtain rfl : ad1001 = ad1004 := (by injection e1004); have hn1004_0 : ad1001.block ≠ gb1002 := hb_ hx1004_0 GW1002; have hn1004_1 : ad1001.block ≠ gb1002 := hb_ hx1004_0 GW1002; replace hx1004_0 := kp_ HB hx1004_0; replace hx1004_1 := kp_ HB hx1004_1; replace hx1004_0 := cf_ gb1002 0 hn1004_0 (.int .i64 ((rd_T37 l0 x10_1).f0)) hx1004_0; replace hx1004_1 := cf_ gb1002 0 hn1004_0 (.int .i64 ((rd_T37 l0 x10_1).f0)) hx1004_1; replace hx1004_0 := cf_ gb1002 1 hn1004_1 (.int .i64 ((rd_T37 l0 x10_1).f1)) hx1004_0; replace hx1004_1 := cf_ gb1002 1 hn1004_1 (.int .i64 ((rd_T37 l0 x10_1).f1)) hx1004_1; (try have hy1004_0 := fun (n_ : Nat) => (show ((((w15.drewN n_).setCell ⟨gb1002, 0, none⟩ (.int .i64 ((rd_T37 l0 x10_1).f0))).setCell ⟨gb1002, 1, none⟩ (.int .i64 ((rd_T37 l0 x10_1).f1)))).cell? _ = some _ from hx1004_0)); (try have hy1004_1 := fun (n_ : Nat) => (show ((((w15.drewN n_).setCell ⟨gb1002, 0, none⟩ (.int .i64 ((rd_T37 l0 x10_1).f0))).setCell ⟨gb1002, 1, none⟩ (.int .i64 ((rd_T37 l0 x10_1).f1)))).cell? _ = some _ from hx1004_1)); clear hn1004_0; clear hn1004_1; replace p1004 := eq_true p1004; replace q1004 := eq_true q1004))
            repeat (go_quiet (first | ((with_reducible refine gate_dst (N := 4) rfl ?_); refine box_event ?hg (N := 4) ?hd (cs := #[.int .i64 0, .int .i64 0]) (t := 37) ?hr ?_; (case hd => rfl); (case hg => rfl); (case hr => first | (go_simp; done) | (go_simp; rfl)); intro gb1002 hg w15 hbox hb; have n0_ := am_ (below_step bl_ hb); have n1_ := am_ (hbox); have n2_ := am_ (gs_ hg : w.heap.size ≤ gb1002); have n3_ := n2_; clear HB; have HB := n0_; have BK1002 := n1_; have GW1002 := n2_; have GE1002 := n3_; clear n0_ n1_ n2_ n3_; clear hb hbox hg; have hcz16_0 := bc2_0 BK1002; have hcz16_1 := bc2_1 BK1002; have hfz16_0 := bf_ BK1002 0; have hfz16_1 := bf_ BK1002 1) | (go_at_call 77; (with_reducible refine (impl_isTime.calls ((rd_T37 l0 x10_1).f0) true _ A6.out).mono ?_); rintro e w' ⟨rfl, ⟨nd, rfl⟩⟩; (try exact dd_); have p1004 : 0 ≤ ((ji9) : Int) := od_; have q1004 : (ji9) < (l0.length : Int) := od_; obtain ⟨ad1004, e1004, hx1004_0, hx1004_1⟩ := at_T37 HR0.out (ji9) p1004 q1004; obtain rfl : ad1001 = ad1004 := (by injection e1004); have hn1004_0 : ad1001.block ≠ gb1002 := hb_ hx1004_0 GW1002; have hn1004_1 : ad1001.block ≠ gb1002 := hb_ hx1004_0 GW1002; replace hx1004_0 := kp_ HB hx1004_0; replace hx1004_1 := kp_ HB hx1004_1; replace hx1004_0 := cf_ gb1002 0 hn1004_0 (.int .i64 ((rd_T37 l0 x10_1).f0)) hx1004_0; replace hx1004_1 := cf_ gb1002 0 hn1004_0 (.int .i64 ((rd_T37 l0 x10_1).f0)) hx1004_1; replace hx1004_0 := cf_ gb1002 1 hn1004_1 (.int .i64 ((rd_T37 l0 x10_1).f1)) hx1004_0; replace hx1004_1 := cf_ gb1002 1 hn1004_1 (.int .i64 ((rd_T37 l0 x10_1).f1)) hx1004_1; (try have hy1004_0 := fun (n_ : Nat) => (show ((((w15.drewN n_).setCell ⟨gb1002, 0, none⟩ (.int .i64 ((rd_T37 l0 x10_1).f0))).setCell ⟨gb1002, 1, none⟩ (.int .i64 ((rd_T37 l0 x10_1).f1)))).cell? _ = some _ from hx1004_0)); (try have hy1004_1 := fun (n_ : Nat) => (show ((((w15.drewN n_).setCell ⟨gb1002, 0, none⟩ (.int .i64 ((rd_T37 l0 x10_1).f0))).setCell ⟨gb1002, 1, none⟩ (.int .i64 ((rd_T37 l0 x10_1).f1)))).cell? _ = some _ from hx1004_1)); clear hn1004_0; clear hn1004_1; replace p1004 := eq_true p1004; replace q1004 := eq_true q1004)); try go_wp2_with (first | ((with_reducible refine gate_dst (N := 4) rfl ?_); refine box_event ?hg (N := 4) ?hd (cs := #[.int .i64 0, .int .i64 0]) (t := 37) ?hr ?_; (case hd => rfl); (case hg => rfl); (case hr => first | (go_simp; done) | (go_simp; rfl)); intro gb1002 hg w15 hbox hb; have n0_ := am_ (below_step bl_ hb); have n1_ := am_ (hbox); have n2_ := am_ (gs_ hg : w.heap.size ≤ gb1002); have n3_ := n2_; clear HB; have HB := n0_; have BK1002 := n1_; have GW1002 := n2_; have GE1002 := n3_; clear n0_ n1_ n2_ n3_; clear hb hbox hg; have hcz16_0 := bc2_0 BK1002; have hcz16_1 := bc2_1 BK1002; have hfz16_0 := bf_ BK1002 0; have hfz16_1 := bf_ BK1002 1) | (go_at_call 77; (with_reducible refine (impl_isTime.calls ((rd_T37 l0 x10_1).f0) true _ A6.out).mono ?_); rintro e w' ⟨rfl, ⟨nd, rfl⟩⟩; (try exact dd_); have p1004 : 0 ≤ ((ji9) : Int) := od_; have q1004 : (ji9) < (l0.length : Int) := od_; obtain ⟨ad1004, e1004, hx1004_0, hx1004_1⟩ := at_T37 HR0.out (ji9) p1004 q1004; obtain rfl : ad1001 = ad1004 := (by injection e1004); have hn1004_0 : ad1001.block ≠ gb1002 := hb_ hx1004_0 GW1002; have hn1004_1 : ad1001.block ≠ gb1002 := hb_ hx1004_0 GW1002; replace hx1004_0 := kp_ HB hx1004_0; replace hx1004_1 := kp_ HB hx1004_1; replace hx1004_0 := cf_ gb1002 0 hn1004_0 (.int .i64 ((rd_T37 l0 x10_1).f0)) hx1004_0; replace hx1004_1 := cf_ gb1002 0 hn1004_0 (.int .i64 ((rd_T37 l0 x10_1).f0)) hx1004_1; replace hx1004_0 := cf_ gb1002 1 hn1004_1 (.int .i64 ((rd_T37 l0 x10_1).f1)) hx1004_0; replace hx1004_1 := cf_ gb1002 1 hn1004_1 (.int .i64 ((rd_T37 l0 x10_1).f1)) hx1004_1; (try have hy1004_0 := fun (n_ : Nat) => (show ((((w15.drewN n_).setCell ⟨gb1002, 0, none⟩ (.int .i64 ((rd_T37 l0 x10_1).f0))).setCell ⟨gb1002, 1, none⟩ (.int .i64 ((rd_T37 l0 x10_1).f1)))).cell? _ = some _ from hx1004_0)); (try have hy1004_1 := fun (n_ : Nat) => (show ((((w15.drewN n_).setCell ⟨gb1002, 0, none⟩ (.int .i64 ((rd_T37 l0 x10_1).f0))).setCell ⟨gb1002, 1, none⟩ (.int .i64 ((rd_T37 l0 x10_1).f1)))).cell? _ = some _ from hx1004_1)); clear hn1004_0; clear hn1004_1; replace p1004 := eq_true p1004; replace q1004 := eq_true q1004)))
            go_roundg k1
            case measure => have := HK1.out; omega
            case rel => exact ⟨(wrap64 (x10_1 + 1)), rs_, H', ⟨by have := HK1.out; omega⟩, ⟨bg_⟩⟩
          ·rw [if_neg c11] at H
           exact absurd H (by simp)
         ·rw [if_neg c10] at H
          exact absurd H (by simp)
        ·rw [if_neg c8] at H
         have c8b0 : decide (0 < x10_1) = false := decide_eq_false c8
         clear c8
         have H' := am_ H
         clear H
         have p1001 : 0 ≤ (x10_1 : Int) := od_
         have q1001 : x10_1 < (l0.length : Int) := od_
         obtain ⟨ad1001, e1001, hx1001_0, hx1001_1⟩ := at_T37 HR0.out x10_1 p1001 q1001
         cases e1001
         replace hx1001_0 := kp_ HB hx1001_0
         replace hx1001_1 := kp_ HB hx1001_1
         replace p1001 := eq_true p1001
         replace q1001 := eq_true q1001
         go_wp2_with (first | ((with_reducible refine gate_dst (N := 4) rfl ?_); refine box_event ?hg (N := 4) ?hd (cs := #[.int .i64 0, .int .i64 0]) (t := 37) ?hr ?_; (case hd => rfl); (case hg => rfl); (case hr => first | (go_simp; done) | (go_simp; rfl)); intro gb1002 hg w17 hbox hb; have n0_ := am_ (below_step bl_ hb); have n1_ := am_ (hbox); have n2_ := am_ (gs_ hg : w.heap.size ≤ gb1002); have n3_ := n2_; clear HB; have HB := n0_; have BK1002 := n1_; have GW1002 := n2_; have GE1002 := n3_; clear n0_ n1_ n2_ n3_; clear hb hbox hg; have hcz18_0 := bc2_0 BK1002; have hcz18_1 := bc2_1 BK1002; have hfz18_0 := bf_ BK1002 0; have hfz18_1 := bf_ BK1002 1) | (go_at_call 77; (with_reducible refine (impl_isTime.calls ((rd_T37 l0 x10_1).f0) true _ A6.out).mono ?_); rintro e w' ⟨rfl, ⟨nd, rfl⟩⟩; (try exact dd_)))
         repeat (go_quiet (first | ((with_reducible refine gate_dst (N := 4) rfl ?_); refine box_event ?hg (N := 4) ?hd (cs := #[.int .i64 0, .int .i64 0]) (t := 37) ?hr ?_; (case hd => rfl); (case hg => rfl); (case hr => first | (go_simp; done) | (go_simp; rfl)); intro gb1002 hg w17 hbox hb; have n0_ := am_ (below_step bl_ hb); have n1_ := am_ (hbox); have n2_ := am_ (gs_ hg : w.heap.size ≤ gb1002); have n3_ := n2_; clear HB; have HB := n0_; have BK1002 := n1_; have GW1002 := n2_; have GE1002 := n3_; clear n0_ n1_ n2_ n3_; clear hb hbox hg; have hcz18_0 := bc2_0 BK1002; have hcz18_1 := bc2_1 BK1002; have hfz18_0 := bf_ BK1002 0; have hfz18_1 := bf_ BK1002 1) | (go_at_call 77; (with_reducible refine (impl_isTime.calls ((rd_T37 l0 x10_1).f0) true _ A6.out).mono ?_); rintro e w' ⟨rfl, ⟨nd, rfl⟩⟩; (try exact dd_))); try go_wp2_with (first | ((with_reducible refine gate_dst (N := 4) rfl ?_); refine box_event ?hg (N := 4) ?hd (cs := #[.int .i64 0, .int .i64 0]) (t := 37) ?hr ?_; (case hd => rfl); (case hg => rfl); (case hr => first | (go_simp; done) | (go_simp; rfl)); intro gb1002 hg w17 hbox hb; have n0_ := am_ (below_step bl_ hb); have n1_ := am_ (hbox); have n2_ := am_ (gs_ hg : w.heap.size ≤ gb1002); have n3_ := n2_; clear HB; have HB := n0_; have BK1002 := n1_; have GW1002 := n2_; have GE1002 := n3_; clear n0_ n1_ n2_ n3_; clear hb hbox hg; have hcz18_0 := bc2_0 BK1002; have hcz18_1 := bc2_1 BK1002; have hfz18_0 := bf_ BK1002 0; have hfz18_1 := bf_ BK1002 1) | (go_at_call 77; (with_reducible refine (impl_isTime.calls ((rd_T37 l0 x10_1).f0) true _ A6.out).mono ?_); rintro e w' ⟨rfl, ⟨nd, rfl⟩⟩; (try exact dd_))))
         go_roundg k1
         case measure => have := HK1.out; omega
         case rel => exact ⟨(wrap64 (x10_1 + 1)), rs_, H', ⟨by have := HK1.out; omega⟩, ⟨bg_⟩⟩
       ·replace c7 := Bool.eq_false_iff.mpr c7
        subst c7
        have H1 : (some false) = some r := by rw [if_neg (show ¬ (false = true) by decide)] at H; exact H
        clear H
        have H := H1
        clear H1
        obtain rfl := Option.some.inj H
        have p1001 : 0 ≤ (x10_1 : Int) := od_
        have q1001 : x10_1 < (l0.length : Int) := od_
        obtain ⟨ad1001, e1001, hx1001_0, hx1001_1⟩ := at_T37 HR0.out x10_1 p1001 q1001
        cases e1001
        replace hx1001_0 := kp_ HB hx1001_0
        replace hx1001_1 := kp_ HB hx1001_1
        replace p1001 := eq_true p1001
        replace q1001 := eq_true q1001
        go_wp2_with (first | ((with_reducible refine gate_dst (N := 4) rfl ?_); refine box_event ?hg (N := 4) ?hd (cs := #[.int .i64 0, .int .i64 0]) (t := 37) ?hr ?_; (case hd => rfl); (case hg => rfl); (case hr => first | (go_simp; done) | (go_simp; rfl)); intro gb1002 hg w19 hbox hb; have n0_ := am_ (below_step bl_ hb); have n1_ := am_ (hbox); have n2_ := am_ (gs_ hg : w.heap.size ≤ gb1002); have n3_ := n2_; clear HB; have HB := n0_; have BK1002 := n1_; have GW1002 := n2_; have GE1002 := n3_; clear n0_ n1_ n2_ n3_; clear hb hbox hg; have hcz20_0 := bc2_0 BK1002; have hcz20_1 := bc2_1 BK1002; have hfz20_0 := bf_ BK1002 0; have hfz20_1 := bf_ BK1002 1) | (go_at_call 77; (with_reducible refine (impl_isTime.calls ((rd_T37 l0 x10_1).f0) false _ A6.out).mono ?_); rintro e w' ⟨rfl, ⟨nd, rfl⟩⟩; (try exact dd_)))
        repeat (go_quiet (first | ((with_reducible refine gate_dst (N := 4) rfl ?_); refine box_event ?hg (N := 4) ?hd (cs := #[.int .i64 0, .int .i64 0]) (t := 37) ?hr ?_; (case hd => rfl); (case hg => rfl); (case hr => first | (go_simp; done) | (go_simp; rfl)); intro gb1002 hg w19 hbox hb; have n0_ := am_ (below_step bl_ hb); have n1_ := am_ (hbox); have n2_ := am_ (gs_ hg : w.heap.size ≤ gb1002); have n3_ := n2_; clear HB; have HB := n0_; have BK1002 := n1_; have GW1002 := n2_; have GE1002 := n3_; clear n0_ n1_ n2_ n3_; clear hb hbox hg; have hcz20_0 := bc2_0 BK1002; have hcz20_1 := bc2_1 BK1002; have hfz20_0 := bf_ BK1002 0; have hfz20_1 := bf_ BK1002 1) | (go_at_call 77; (with_reducible refine (impl_isTime.calls ((rd_T37 l0 x10_1).f0) false _ A6.out).mono ?_); rintro e w' ⟨rfl, ⟨nd, rfl⟩⟩; (try exact dd_))); try go_wp2_with (first | ((with_reducible refine gate_dst (N := 4) rfl ?_); refine box_event ?hg (N := 4) ?hd (cs := #[.int .i64 0, .int .i64 0]) (t := 37) ?hr ?_; (case hd => rfl); (case hg => rfl); (case hr => first | (go_simp; done) | (go_simp; rfl)); intro gb1002 hg w19 hbox hb; have n0_ := am_ (below_step bl_ hb); have n1_ := am_ (hbox); have n2_ := am_ (gs_ hg : w.heap.size ≤ gb1002); have n3_ := n2_; clear HB; have HB := n0_; have BK1002 := n1_; have GW1002 := n2_; have GE1002 := n3_; clear n0_ n1_ n2_ n3_; clear hb hbox hg; have hcz20_0 := bc2_0 BK1002; have hcz20_1 := bc2_1 BK1002; have hfz20_0 := bf_ BK1002 0; have hfz20_1 := bf_ BK1002 1) | (go_at_call 77; (with_reducible refine (impl_isTime.calls ((rd_T37 l0 x10_1).f0) false _ A6.out).mono ?_); rintro e w' ⟨rfl, ⟨nd, rfl⟩⟩; (try exact dd_))))
        go_ret
        exact ⟨rf_, bg_⟩
      ·rw [if_neg c5] at H
       exact absurd H (by simp)
     ·rw [if_neg c4] at H
      exact absurd H (by simp)
    ·rw [if_neg c3] at H
     have c3b0 : decide (x10_1 < (l0.length : Int)) = false := decide_eq_false c3
     clear c3
     obtain rfl := Option.some.inj H
     go_wp2
     repeat (go_quiet (fail); try go_wp2)
     go_ret
     exact ⟨rf_, bl_⟩

end Go.Proofs.Ytjapdjkckhcelaa.Pr
