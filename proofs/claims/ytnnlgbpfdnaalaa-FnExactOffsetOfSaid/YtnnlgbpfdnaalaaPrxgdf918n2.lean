/- Functions of the given program as plain Lean functions, and that the machine's calls come to them; written by a program of this session; no condition but those that each theorem states. -/
import Derived.Test.YtnnlgbpfdnaalaaPrx0
import Derived.Test.YtnnlgbpfdnaalaaPrxg1267dn4
import Derived.Test.YtnnlgbpfdnaalaaPrxgd406dn2
namespace Go.Proofs.Ytnnlgbpfdnaalaa.Pr
open Go.RowKit Go.Proofs.YtnnlgbpfdnaalaaW.PrintWords Go.Proofs.YtnnlgbpfdnaalaaW.PrintLast Go.Proofs.YtnnlgbpfdnaalaaW.PrintMore
attribute [local go_sem] max2_int min2_int max_two min_two max_three min_three max_four min_four   -- for this text's walks alone
set_option linter.unusedVariables false
set_option linter.unusedSimpArgs false

/-! ### laws_eqRelabelS: function 101 -/
def laws_eqRelabelS.l0 : Nat → List (S42) → List (S42) → Int → Option (Bool)
 | 0, _, _, _ => none
 | k + 1, x0, x1, x5 => if x5 < (x0.length : Int) then (if 0 ≤ x5 then (if x5 < (x1.length : Int) then ((laws_eqRelabel.f k ((rd_T42 x0 x5).f0) ((rd_T42 x0 x5).f1) ((rd_T42 x0 x5).f2) ((rd_T42 x0 x5).f3) ((rd_T42 x0 x5).f4) ((rd_T42 x0 x5).f5) ((rd_T42 x0 x5).f6) ((rd_T42 x1 x5).f0) ((rd_T42 x1 x5).f1) ((rd_T42 x1 x5).f2) ((rd_T42 x1 x5).f3) ((rd_T42 x1 x5).f4) ((rd_T42 x1 x5).f5) ((rd_T42 x1 x5).f6)).bind fun t1003 => (if t1003 = true then (laws_eqRelabelS.l0 k x0 x1 (wrap64 (x5 + 1))) else (some false))) else (none)) else (none)) else (some true)
def laws_eqRelabelS.f (k : Nat) (l0 : List (S42)) (l1 : List (S42)) : Option (Bool) := if (l0.length : Int) = (l1.length : Int) then (laws_eqRelabelS.l0 k l0 l1 0) else (some false)
theorem laws_eqRelabelS.mono_l : ∀ k, (∀ y0 y1 y2, LeO (laws_eqRelabelS.l0 k y0 y1 y2) (laws_eqRelabelS.l0 (k + 1) y0 y1 y2))
 | 0 => fun _ _ _ r h => by simp [laws_eqRelabelS.l0] at h
 | k + 1 => by
  have ih0 := laws_eqRelabelS.mono_l k
  ·intro y0 y1 y2
   unfold laws_eqRelabelS.l0
   repeat' first
   | with_reducible first | exact ih0 _ _ _ | exact laws_eqRelabel.mono _ _ _ _ _ _ _ _ _ _ _ _ _ _ _ | exact LeO.refl _ | exact LeO.none _ | refine LeO.ite ?_ ?_ | refine LeO.bind ?_ (fun _ => ?_)
   | exact ih0 _ _ _
   | exact laws_eqRelabel.mono _ _ _ _ _ _ _ _ _ _ _ _ _ _ _
   | exact LeO.none _
   | refine LeO.ite ?_ ?_
   | refine LeO.bind ?_ (fun _ => ?_)
theorem laws_eqRelabelS.mono : ∀ a0 a1 k, LeO (laws_eqRelabelS.f k a0 a1) (laws_eqRelabelS.f (k + 1) a0 a1) := by
 intro a0 a1 k
 have ih0 := laws_eqRelabelS.mono_l k
 unfold laws_eqRelabelS.f
 repeat' first
   | with_reducible first | exact ih0 _ _ _ | exact laws_eqRelabel.mono _ _ _ _ _ _ _ _ _ _ _ _ _ _ _ | exact LeO.refl _ | exact LeO.none _ | refine LeO.ite ?_ ?_ | refine LeO.bind ?_ (fun _ => ?_)
   | exact ih0 _ _ _
   | exact laws_eqRelabel.mono _ _ _ _ _ _ _ _ _ _ _ _ _ _ _
   | exact LeO.none _
   | refine LeO.ite ?_ ?_
   | refine LeO.bind ?_ (fun _ => ?_)
def laws_eqRelabelS.T6 : Bool × List (List Nat × List Nat) := (true, [([], []), ([], []), ([0, 1], [0, 1]), ([2], [2]), ([], []), ([], []), ([4, 5], [4, 5]), ([6], [6]), ([3, 7], [3, 7]), ([8], [8])])
def laws_eqRelabelS.B6 : List Nat := [0, 0, 3, 7, 0, 0, 48, 112, 255, 511]
theorem laws_eqRelabelS.tab6 : rtab .any (opsOf Try.f101 6) = laws_eqRelabelS.T6 := by kernel_rfl
theorem laws_eqRelabelS.bits6 : waitsOk laws_eqRelabelS.T6.2 laws_eqRelabelS.B6 = true := by kernel_rfl
set_option maxHeartbeats 8000000 in
set_option maxRecDepth 100000 in
theorem laws_eqRelabelS.calls (k : Nat) (A0 : Option Addr) (c0 : Nat) (l0 : List (S42)) (A1 : Option Addr) (c1 : Nat) (l1 : List (S42)) (r : Bool) (w : World) (hr0 : Kd.C k42 w A0 l0.length l0) (hc0 : l0.length ≤ c0) (hr1 : Kd.C k42 w A1 l1.length l1) (hc1 : l1.length ≤ c1) (h : laws_eqRelabelS.f k l0 l1 = some r) :
  Calls Try.prog 101 #[.slice A0 l0.length c0, .slice A1 l1.length c1] w fun e w' => e = .returned (.bool r) ∧ Below w.heap.size w w' := by
 have hu42 := Try.underlying42
 have HR0 := am_ hr0
 have HC0 := am_ hc0
 clear hr0 hc0
 have HR1 := am_ hr1
 have HC1 := am_ hc1
 clear hr1 hc1
 have HB := am_ (Below.refl w.heap.size w)
 have H : (if (l0.length : Int) = (l1.length : Int) then (laws_eqRelabelS.l0 k l0 l1 0) else (some false)) = some r := h
 clear h
 by_cases c3 : (l0.length : Int) = (l1.length : Int)
 ·rw [if_pos c3] at H
  have c3b0 : ((l0.length : Int) == (l1.length : Int)) = true := beq_iff_eq.mpr c3
  have c3b1 : ((l0.length : Int) != (l1.length : Int)) = false := bne_eq_false_iff_eq.mpr c3
  have c3b2 : (l0.length == l1.length) = true := by first | simpa using c3 | (simp at c3 ⊢; omega)
  clear c3
  have H' := am_ H
  clear H
  go_enter Try.func101, Try.ntmps101
  go_wp2
  go_loopg [5] k (fun kq v5 w' => ∃ (x5_1 : Int), v5 = .int .i64 x5_1 ∧ Aside0 (laws_eqRelabelS.l0 kq l0 l1 x5_1 = some r) ∧ Aside0 (kq ≤ k) ∧ Aside0 (Below w.heap.size w w'))
  case atStart => exact ⟨(0), rs_, H', ⟨Nat.le_refl _⟩, ⟨bl_⟩⟩
  case round =>
   clear H'
   try clear c1
   try clear p2
   try clear c3
   try clear c3b0
   try clear c3b1
   try clear c3b2
   obtain ⟨x5_1, rfl, HA, HK1, HB⟩ := hrel
   cases gk with
   | zero => exact absurd HA.out (by simp [laws_eqRelabelS.l0])
   | succ k1 =>
    have H := HA.out
    clear HA
    simp only [laws_eqRelabelS.l0] at H
    by_cases c4 : x5_1 < (l0.length : Int)
    ·rw [if_pos c4] at H
     have c4b0 : decide (x5_1 < (l0.length : Int)) = true := decide_eq_true c4
     clear c4
     by_cases c5 : 0 ≤ x5_1
     ·rw [if_pos c5] at H
      have c5b0 : decide (0 ≤ x5_1) = true := decide_eq_true c5
      clear c5
      by_cases c6 : x5_1 < (l1.length : Int)
      ·rw [if_pos c6] at H
       have c6b0 : decide (x5_1 < (l1.length : Int)) = true := decide_eq_true c6
       clear c6
       replace H := Option.bind_eq_some_iff.mp H
       obtain ⟨t1003, A70, H⟩ := H
       replace H : (if t1003 = true then (laws_eqRelabelS.l0 k1 l0 l1 (wrap64 (x5_1 + 1))) else (some false)) = some r := H
       have A7 := am_ A70
       clear A70
       by_cases c8 : t1003 = true
       ·subst c8
        have H1 : (laws_eqRelabelS.l0 k1 l0 l1 (wrap64 (x5_1 + 1))) = some r := by rw [if_pos rfl] at H; exact H
        clear H
        have H := H1
        clear H1
        have H' := am_ H
        clear H
        try go_wp2
        have n0_ := am_ (below_drew1 HB.out)
        clear HB
        have HB := n0_
        clear n0_
        have p1001 : 0 ≤ (x5_1 : Int) := od_
        have q1001 : x5_1 < (l0.length : Int) := od_
        obtain ⟨ad1001, A1001_1, c1001_1, e1001, hx1001_0, hx1001_1, hx1001_2, hx1001_3, hx1001_4, hx1001_5, hx1001_6, hl1001_1, hi1001_1⟩ := at_T42 HR0.out x5_1 p1001 q1001
        have hw1001_6 := hx1001_6
        have hw1001_5 := hx1001_5
        have hw1001_4 := hx1001_4
        have hw1001_3 := hx1001_3
        have hw1001_2 := hx1001_2
        have hw1001_1 := hx1001_1
        have hw1001_0 := hx1001_0
        cases e1001
        replace hx1001_0 := kp_ HB hx1001_0
        replace hx1001_1 := kp_ HB hx1001_1
        replace hx1001_2 := kp_ HB hx1001_2
        replace hx1001_3 := kp_ HB hx1001_3
        replace hx1001_4 := kp_ HB hx1001_4
        replace hx1001_5 := kp_ HB hx1001_5
        replace hx1001_6 := kp_ HB hx1001_6
        have HR1001_1 := am_ hi1001_1
        have HC1001_1 := am_ hl1001_1
        clear hi1001_1 hl1001_1
        replace p1001 := eq_true p1001
        replace q1001 := eq_true q1001
        have p1002 : 0 ≤ (x5_1 : Int) := od_
        have q1002 : x5_1 < (l1.length : Int) := od_
        obtain ⟨ad1002, A1002_1, c1002_1, e1002, hx1002_0, hx1002_1, hx1002_2, hx1002_3, hx1002_4, hx1002_5, hx1002_6, hl1002_1, hi1002_1⟩ := at_T42 HR1.out x5_1 p1002 q1002
        have hw1002_6 := hx1002_6
        have hw1002_5 := hx1002_5
        have hw1002_4 := hx1002_4
        have hw1002_3 := hx1002_3
        have hw1002_2 := hx1002_2
        have hw1002_1 := hx1002_1
        have hw1002_0 := hx1002_0
        cases e1002
        replace hx1002_0 := kp_ HB hx1002_0
        replace hx1002_1 := kp_ HB hx1002_1
        replace hx1002_2 := kp_ HB hx1002_2
        replace hx1002_3 := kp_ HB hx1002_3
        replace hx1002_4 := kp_ HB hx1002_4
        replace hx1002_5 := kp_ HB hx1002_5
        replace hx1002_6 := kp_ HB hx1002_6
        have HR1002_1 := am_ hi1002_1
        have HC1002_1 := am_ hl1002_1
        clear hi1002_1 hl1002_1
        replace p1002 := eq_true p1002
        replace q1002 := eq_true q1002
        refine start_ (n := 10) (S := fun w' => w'.cell? (ad1001.add ((x5_1).toNat * 7)) = some (.int .i64 ((rd_T42 l0 x5_1).f0)) ∧ w'.cell? ⟨(ad1001.add ((x5_1).toNat * 7)).block, (ad1001.add ((x5_1).toNat * 7)).off + 1, none⟩ = some (.slice A1001_1 ((rd_T42 l0 x5_1).f1).length c1001_1) ∧ w'.cell? ⟨(ad1001.add ((x5_1).toNat * 7)).block, (ad1001.add ((x5_1).toNat * 7)).off + 2, none⟩ = some (.string ((rd_T42 l0 x5_1).f2)) ∧ w'.cell? ⟨(ad1001.add ((x5_1).toNat * 7)).block, (ad1001.add ((x5_1).toNat * 7)).off + 3, none⟩ = some (.string ((rd_T42 l0 x5_1).f3)) ∧ w'.cell? ⟨(ad1001.add ((x5_1).toNat * 7)).block, (ad1001.add ((x5_1).toNat * 7)).off + 4, none⟩ = some (.string ((rd_T42 l0 x5_1).f4)) ∧ w'.cell? ⟨(ad1001.add ((x5_1).toNat * 7)).block, (ad1001.add ((x5_1).toNat * 7)).off + 5, none⟩ = some (.string ((rd_T42 l0 x5_1).f5)) ∧ w'.cell? ⟨(ad1001.add ((x5_1).toNat * 7)).block, (ad1001.add ((x5_1).toNat * 7)).off + 6, none⟩ = some (.int .i64 ((rd_T42 l0 x5_1).f6)) ∧ w'.cell? (ad1002.add ((x5_1).toNat * 7)) = some (.int .i64 ((rd_T42 l1 x5_1).f0)) ∧ w'.cell? ⟨(ad1002.add ((x5_1).toNat * 7)).block, (ad1002.add ((x5_1).toNat * 7)).off + 1, none⟩ = some (.slice A1002_1 ((rd_T42 l1 x5_1).f1).length c1002_1) ∧ w'.cell? ⟨(ad1002.add ((x5_1).toNat * 7)).block, (ad1002.add ((x5_1).toNat * 7)).off + 2, none⟩ = some (.string ((rd_T42 l1 x5_1).f2)) ∧ w'.cell? ⟨(ad1002.add ((x5_1).toNat * 7)).block, (ad1002.add ((x5_1).toNat * 7)).off + 3, none⟩ = some (.string ((rd_T42 l1 x5_1).f3)) ∧ w'.cell? ⟨(ad1002.add ((x5_1).toNat * 7)).block, (ad1002.add ((x5_1).toNat * 7)).off + 4, none⟩ = some (.string ((rd_T42 l1 x5_1).f4)) ∧ w'.cell? ⟨(ad1002.add ((x5_1).toNat * 7)).block, (ad1002.add ((x5_1).toNat * 7)).off + 5, none⟩ = some (.string ((rd_T42 l1 x5_1).f5)) ∧ w'.cell? ⟨(ad1002.add ((x5_1).toNat * 7)).block, (ad1002.add ((x5_1).toNat * 7)).off + 6, none⟩ = some (.int .i64 ((rd_T42 l1 x5_1).f6))) (ds := []) (bz 10 0) (by kernel_rfl) rfl rfl ⟨(kp_ HB hw1001_0 :), (kp_ HB hw1001_1 :), (kp_ HB hw1001_2 :), (kp_ HB hw1001_3 :), (kp_ HB hw1001_4 :), (kp_ HB hw1001_5 :), (kp_ HB hw1001_6 :), (kp_ HB hw1002_0 :), (kp_ HB hw1002_1 :), (kp_ HB hw1002_2 :), (kp_ HB hw1002_3 :), (kp_ HB hw1002_4 :), (kp_ HB hw1002_5 :), (kp_ HB hw1002_6 :)⟩ (fun hHeld => ?_); refine with_tabW laws_eqRelabelS.tab6 laws_eqRelabelS.bits6 (fun HT_ HW_ => ?_)
        generalize wr.drew = w9 at HB HR1001_1 HR1002_1 hx1001_0 hx1001_1 hx1001_2 hx1001_3 hx1001_4 hx1001_5 hx1001_6 hx1002_0 hx1002_1 hx1002_2 hx1002_3 hx1002_4 hx1002_5 hx1002_6 hHeld ⊢
        refine pz_ 0 17 1 ?_
        refine pz_ 1 18 3 ?_
        refine pz_ 2 19 7 ?_
        refine pz_ 4 21 23 ?_
        refine pz_ 5 22 55 ?_
        refine pz_ 6 23 119 ?_
        refine tz_ 3 20 127 ?_
        refine tz_ 7 24 255 ?_
        refine one_ (i := 8) (N := some 25) (bz 10 511) rfl rfl (one_of HT_.out (by kernel_rfl)) (by decide) (fun K hK => ?_)
        refine goes_ Try.func35 (by kernel_rfl) rfl #[.agg #[.int .i64 ((rd_T42 l0 x5_1).f0), .slice A1001_1 ((rd_T42 l0 x5_1).f1).length c1001_1, .string ((rd_T42 l0 x5_1).f2), .string ((rd_T42 l0 x5_1).f3), .string ((rd_T42 l0 x5_1).f4), .string ((rd_T42 l0 x5_1).f5), .int .i64 ((rd_T42 l0 x5_1).f6)], .agg #[.int .i64 ((rd_T42 l1 x5_1).f0), .slice A1002_1 ((rd_T42 l1 x5_1).f1).length c1002_1, .string ((rd_T42 l1 x5_1).f2), .string ((rd_T42 l1 x5_1).f3), .string ((rd_T42 l1 x5_1).f4), .string ((rd_T42 l1 x5_1).f5), .int .i64 ((rd_T42 l1 x5_1).f6)]] (by rfl) rfl rfl ag_ ?_
        with_reducible refine (laws_eqRelabel.calls k1 ((rd_T42 l0 x5_1).f0) _ _ ((rd_T42 l0 x5_1).f1) ((rd_T42 l0 x5_1).f2) ((rd_T42 l0 x5_1).f3) ((rd_T42 l0 x5_1).f4) ((rd_T42 l0 x5_1).f5) ((rd_T42 l0 x5_1).f6) ((rd_T42 l1 x5_1).f0) _ _ ((rd_T42 l1 x5_1).f1) ((rd_T42 l1 x5_1).f2) ((rd_T42 l1 x5_1).f3) ((rd_T42 l1 x5_1).f4) ((rd_T42 l1 x5_1).f5) ((rd_T42 l1 x5_1).f6) true _ ?side1 ?side2 ?side3 ?side4 A7.out).mono ?_
        (case side1 => exact cc_ (Kd.C_below HR1001_1.out HB.out))
        (case side2 => exact HC1001_1.out)
        (case side3 => exact cc_ (Kd.C_below HR1002_1.out HB.out))
        (case side4 => exact HC1002_1.out)
        rintro e w10 ⟨rfl, hb⟩
        refine ⟨_, rfl, ?_⟩
        have n0_ := am_ (below_step bl_ hb)
        clear HB
        have HB := n0_
        clear n0_
        (try clear hb)
        (try clear hb2)
        (try clear hk)
        (try clear hi)
        refine hK.out _ _ ⟨(kp_ HB hw1001_0 :), (kp_ HB hw1001_1 :), (kp_ HB hw1001_2 :), (kp_ HB hw1001_3 :), (kp_ HB hw1001_4 :), (kp_ HB hw1001_5 :), (kp_ HB hw1001_6 :), (kp_ HB hw1002_0 :), (kp_ HB hw1002_1 :), (kp_ HB hw1002_2 :), (kp_ HB hw1002_3 :), (kp_ HB hw1002_4 :), (kp_ HB hw1002_5 :), (kp_ HB hw1002_6 :)⟩ (fun hHeld => ?_)
        clear hK K
        refine norm_ (a' := ?_) ?_ ?_
        rotate_left
        ·show Act.put _ (some 25) _ = _
         simp only [Act.put, List.setIfInBounds_toArray, List.set_cons_zero, List.set_cons_succ, i64_w, i32_w]
         rfl
        refine pz_ 9 26 1023 ?_
        refine done_ (done_of HT_.out (by kernel_rfl)) ?_
        try go_wp2
        go_roundg k1
        case measure => have := HK1.out; omega
        case rel => exact ⟨(wrap64 (x5_1 + 1)), rs_, H', ⟨by have := HK1.out; omega⟩, ⟨bl_⟩⟩
       ·replace c8 := Bool.eq_false_iff.mpr c8
        subst c8
        have H1 : (some false) = some r := by rw [if_neg (show ¬ (false = true) by decide)] at H; exact H
        clear H
        have H := H1
        clear H1
        obtain rfl := Option.some.inj H
        try go_wp2
        have n0_ := am_ (below_drew1 HB.out)
        clear HB
        have HB := n0_
        clear n0_
        have p1001 : 0 ≤ (x5_1 : Int) := od_
        have q1001 : x5_1 < (l0.length : Int) := od_
        obtain ⟨ad1001, A1001_1, c1001_1, e1001, hx1001_0, hx1001_1, hx1001_2, hx1001_3, hx1001_4, hx1001_5, hx1001_6, hl1001_1, hi1001_1⟩ := at_T42 HR0.out x5_1 p1001 q1001
        have hw1001_6 := hx1001_6
        have hw1001_5 := hx1001_5
        have hw1001_4 := hx1001_4
        have hw1001_3 := hx1001_3
        have hw1001_2 := hx1001_2
        have hw1001_1 := hx1001_1
        have hw1001_0 := hx1001_0
        cases e1001
        replace hx1001_0 := kp_ HB hx1001_0
        replace hx1001_1 := kp_ HB hx1001_1
        replace hx1001_2 := kp_ HB hx1001_2
        replace hx1001_3 := kp_ HB hx1001_3
        replace hx1001_4 := kp_ HB hx1001_4
        replace hx1001_5 := kp_ HB hx1001_5
        replace hx1001_6 := kp_ HB hx1001_6
        have HR1001_1 := am_ hi1001_1
        have HC1001_1 := am_ hl1001_1
        clear hi1001_1 hl1001_1
        replace p1001 := eq_true p1001
        replace q1001 := eq_true q1001
        have p1002 : 0 ≤ (x5_1 : Int) := od_
        have q1002 : x5_1 < (l1.length : Int) := od_
        obtain ⟨ad1002, A1002_1, c1002_1, e1002, hx1002_0, hx1002_1, hx1002_2, hx1002_3, hx1002_4, hx1002_5, hx1002_6, hl1002_1, hi1002_1⟩ := at_T42 HR1.out x5_1 p1002 q1002
        have hw1002_6 := hx1002_6
        have hw1002_5 := hx1002_5
        have hw1002_4 := hx1002_4
        have hw1002_3 := hx1002_3
        have hw1002_2 := hx1002_2
        have hw1002_1 := hx1002_1
        have hw1002_0 := hx1002_0
        cases e1002
        replace hx1002_0 := kp_ HB hx1002_0
        replace hx1002_1 := kp_ HB hx1002_1
        replace hx1002_2 := kp_ HB hx1002_2
        replace hx1002_3 := kp_ HB hx1002_3
        replace hx1002_4 := kp_ HB hx1002_4
        replace hx1002_5 := kp_ HB hx1002_5
        replace hx1002_6 := kp_ HB hx1002_6
        have HR1002_1 := am_ hi1002_1
        have HC1002_1 := am_ hl1002_1
        clear hi1002_1 hl1002_1
        replace p1002 := eq_true p1002
        replace q1002 := eq_true q1002
        refine start_ (n := 10) (S := fun w' => w'.cell? (ad1001.add ((x5_1).toNat * 7)) = some (.int .i64 ((rd_T42 l0 x5_1).f0)) ∧ w'.cell? ⟨(ad1001.add ((x5_1).toNat * 7)).block, (ad1001.add ((x5_1).toNat * 7)).off + 1, none⟩ = some (.slice A1001_1 ((rd_T42 l0 x5_1).f1).length c1001_1) ∧ w'.cell? ⟨(ad1001.add ((x5_1).toNat * 7)).block, (ad1001.add ((x5_1).toNat * 7)).off + 2, none⟩ = some (.string ((rd_T42 l0 x5_1).f2)) ∧ w'.cell? ⟨(ad1001.add ((x5_1).toNat * 7)).block, (ad1001.add ((x5_1).toNat * 7)).off + 3, none⟩ = some (.string ((rd_T42 l0 x5_1).f3)) ∧ w'.cell? ⟨(ad1001.add ((x5_1).toNat * 7)).block, (ad1001.add ((x5_1).toNat * 7)).off + 4, none⟩ = some (.string ((rd_T42 l0 x5_1).f4)) ∧ w'.cell? ⟨(ad1001.add ((x5_1).toNat * 7)).block, (ad1001.add ((x5_1).toNat * 7)).off + 5, none⟩ = some (.string ((rd_T42 l0 x5_1).f5)) ∧ w'.cell? ⟨(ad1001.add ((x5_1).toNat * 7)).block, (ad1001.add ((x5_1).toNat * 7)).off + 6, none⟩ = some (.int .i64 ((rd_T42 l0 x5_1).f6)) ∧ w'.cell? (ad1002.add ((x5_1).toNat * 7)) = some (.int .i64 ((rd_T42 l1 x5_1).f0)) ∧ w'.cell? ⟨(ad1002.add ((x5_1).toNat * 7)).block, (ad1002.add ((x5_1).toNat * 7)).off + 1, none⟩ = some (.slice A1002_1 ((rd_T42 l1 x5_1).f1).length c1002_1) ∧ w'.cell? ⟨(ad1002.add ((x5_1).toNat * 7)).block, (ad1002.add ((x5_1).toNat * 7)).off + 2, none⟩ = some (.string ((rd_T42 l1 x5_1).f2)) ∧ w'.cell? ⟨(ad1002.add ((x5_1).toNat * 7)).block, (ad1002.add ((x5_1).toNat * 7)).off + 3, none⟩ = some (.string ((rd_T42 l1 x5_1).f3)) ∧ w'.cell? ⟨(ad1002.add ((x5_1).toNat * 7)).block, (ad1002.add ((x5_1).toNat * 7)).off + 4, none⟩ = some (.string ((rd_T42 l1 x5_1).f4)) ∧ w'.cell? ⟨(ad1002.add ((x5_1).toNat * 7)).block, (ad1002.add ((x5_1).toNat * 7)).off + 5, none⟩ = some (.string ((rd_T42 l1 x5_1).f5)) ∧ w'.cell? ⟨(ad1002.add ((x5_1).toNat * 7)).block, (ad1002.add ((x5_1).toNat * 7)).off + 6, none⟩ = some (.int .i64 ((rd_T42 l1 x5_1).f6))) (ds := []) (bz 10 0) (by kernel_rfl) rfl rfl ⟨(kp_ HB hw1001_0 :), (kp_ HB hw1001_1 :), (kp_ HB hw1001_2 :), (kp_ HB hw1001_3 :), (kp_ HB hw1001_4 :), (kp_ HB hw1001_5 :), (kp_ HB hw1001_6 :), (kp_ HB hw1002_0 :), (kp_ HB hw1002_1 :), (kp_ HB hw1002_2 :), (kp_ HB hw1002_3 :), (kp_ HB hw1002_4 :), (kp_ HB hw1002_5 :), (kp_ HB hw1002_6 :)⟩ (fun hHeld => ?_); refine with_tabW laws_eqRelabelS.tab6 laws_eqRelabelS.bits6 (fun HT_ HW_ => ?_)
        generalize wr.drew = w11 at HB HR1001_1 HR1002_1 hx1001_0 hx1001_1 hx1001_2 hx1001_3 hx1001_4 hx1001_5 hx1001_6 hx1002_0 hx1002_1 hx1002_2 hx1002_3 hx1002_4 hx1002_5 hx1002_6 hHeld ⊢
        refine pz_ 0 17 1 ?_
        refine pz_ 1 18 3 ?_
        refine pz_ 2 19 7 ?_
        refine pz_ 4 21 23 ?_
        refine pz_ 5 22 55 ?_
        refine pz_ 6 23 119 ?_
        refine tz_ 3 20 127 ?_
        refine tz_ 7 24 255 ?_
        refine one_ (i := 8) (N := some 25) (bz 10 511) rfl rfl (one_of HT_.out (by kernel_rfl)) (by decide) (fun K hK => ?_)
        refine goes_ Try.func35 (by kernel_rfl) rfl #[.agg #[.int .i64 ((rd_T42 l0 x5_1).f0), .slice A1001_1 ((rd_T42 l0 x5_1).f1).length c1001_1, .string ((rd_T42 l0 x5_1).f2), .string ((rd_T42 l0 x5_1).f3), .string ((rd_T42 l0 x5_1).f4), .string ((rd_T42 l0 x5_1).f5), .int .i64 ((rd_T42 l0 x5_1).f6)], .agg #[.int .i64 ((rd_T42 l1 x5_1).f0), .slice A1002_1 ((rd_T42 l1 x5_1).f1).length c1002_1, .string ((rd_T42 l1 x5_1).f2), .string ((rd_T42 l1 x5_1).f3), .string ((rd_T42 l1 x5_1).f4), .string ((rd_T42 l1 x5_1).f5), .int .i64 ((rd_T42 l1 x5_1).f6)]] (by rfl) rfl rfl ag_ ?_
        with_reducible refine (laws_eqRelabel.calls k1 ((rd_T42 l0 x5_1).f0) _ _ ((rd_T42 l0 x5_1).f1) ((rd_T42 l0 x5_1).f2) ((rd_T42 l0 x5_1).f3) ((rd_T42 l0 x5_1).f4) ((rd_T42 l0 x5_1).f5) ((rd_T42 l0 x5_1).f6) ((rd_T42 l1 x5_1).f0) _ _ ((rd_T42 l1 x5_1).f1) ((rd_T42 l1 x5_1).f2) ((rd_T42 l1 x5_1).f3) ((rd_T42 l1 x5_1).f4) ((rd_T42 l1 x5_1).f5) ((rd_T42 l1 x5_1).f6) false _ ?side1 ?side2 ?side3 ?side4 A7.out).mono ?_
        (case side1 => exact cc_ (Kd.C_below HR1001_1.out HB.out))
        (case side2 => exact HC1001_1.out)
        (case side3 => exact cc_ (Kd.C_below HR1002_1.out HB.out))
        (case side4 => exact HC1002_1.out)
        rintro e w12 ⟨rfl, hb⟩
        refine ⟨_, rfl, ?_⟩
        have n0_ := am_ (below_step bl_ hb)
        clear HB
        have HB := n0_
        clear n0_
        (try clear hb)
        (try clear hb2)
        (try clear hk)
        (try clear hi)
        refine hK.out _ _ ⟨(kp_ HB hw1001_0 :), (kp_ HB hw1001_1 :), (kp_ HB hw1001_2 :), (kp_ HB hw1001_3 :), (kp_ HB hw1001_4 :), (kp_ HB hw1001_5 :), (kp_ HB hw1001_6 :), (kp_ HB hw1002_0 :), (kp_ HB hw1002_1 :), (kp_ HB hw1002_2 :), (kp_ HB hw1002_3 :), (kp_ HB hw1002_4 :), (kp_ HB hw1002_5 :), (kp_ HB hw1002_6 :)⟩ (fun hHeld => ?_)
        clear hK K
        refine norm_ (a' := ?_) ?_ ?_
        rotate_left
        ·show Act.put _ (some 25) _ = _
         simp only [Act.put, List.setIfInBounds_toArray, List.set_cons_zero, List.set_cons_succ, i64_w, i32_w]
         rfl
        refine pz_ 9 26 1023 ?_
        refine done_ (done_of HT_.out (by kernel_rfl)) ?_
        try go_wp2
        go_ret
        exact ⟨rf_, bl_⟩
      ·rw [if_neg c6] at H
       exact absurd H (by simp)
     ·rw [if_neg c5] at H
      exact absurd H (by simp)
    ·rw [if_neg c4] at H
     have c4b0 : decide (x5_1 < (l0.length : Int)) = false := decide_eq_false c4
     clear c4
     obtain rfl := Option.some.inj H
     go_wp2
     go_ret
     exact ⟨rf_, bl_⟩
 ·rw [if_neg c3] at H
  have c3b0 : ((l0.length : Int) == (l1.length : Int)) = false := beq_eq_false_iff_ne.mpr c3
  have c3b1 : ((l0.length : Int) != (l1.length : Int)) = true := bne_iff_ne.mpr c3
  have c3b2 : (l0.length == l1.length) = false := by first | simpa using c3 | (simp at c3 ⊢; omega)
  obtain rfl := Option.some.inj H
  go_enter Try.func101, Try.ntmps101
  go_wp2
  go_ret
  exact ⟨rf_, bl_⟩

/-! ### laws_eqTarget: function 45 -/
def laws_eqTarget.f (k : Nat) (l0_0 : List (S105)) (a0_1 : Int) (a0_2 : Int) (a0_3 : Bool) (l0_4 : List (S42)) (l1_0 : List (S105)) (a1_1 : Int) (a1_2 : Int) (a1_3 : Bool) (l1_4 : List (S42)) : Option (Bool) := (laws_eqLabelS.f k l0_0 l1_0).bind fun t1003 => (if t1003 = true then (if a0_1 = a1_1 then (if a0_2 = a1_2 then (if (a0_3 != a1_3) = true then (some false) else ((laws_eqRelabelS.f k l0_4 l1_4).bind fun t1004 => (if t1004 = true then (some true) else (some false)))) else (some false)) else (some false)) else (some false))
theorem laws_eqTarget.mono : ∀ a0 a1 a2 a3 a4 a5 a6 a7 a8 a9 k, LeO (laws_eqTarget.f k a0 a1 a2 a3 a4 a5 a6 a7 a8 a9) (laws_eqTarget.f (k + 1) a0 a1 a2 a3 a4 a5 a6 a7 a8 a9) := by
 intro a0 a1 a2 a3 a4 a5 a6 a7 a8 a9 k
 unfold laws_eqTarget.f
 repeat' first
   | with_reducible first | exact laws_eqLabelS.mono _ _ _ | exact laws_eqRelabelS.mono _ _ _ | exact LeO.refl _ | exact LeO.none _ | refine LeO.ite ?_ ?_ | refine LeO.bind ?_ (fun _ => ?_)
   | exact laws_eqLabelS.mono _ _ _
   | exact laws_eqRelabelS.mono _ _ _
   | exact LeO.none _
   | refine LeO.ite ?_ ?_
   | refine LeO.bind ?_ (fun _ => ?_)
set_option maxHeartbeats 8000000 in
set_option maxRecDepth 100000 in
theorem laws_eqTarget.calls (k : Nat) (A0_0 : Option Addr) (c0_0 : Nat) (l0_0 : List (S105)) (a0_1 : Int) (a0_2 : Int) (a0_3 : Bool) (A0_4 : Option Addr) (c0_4 : Nat) (l0_4 : List (S42)) (A1_0 : Option Addr) (c1_0 : Nat) (l1_0 : List (S105)) (a1_1 : Int) (a1_2 : Int) (a1_3 : Bool) (A1_4 : Option Addr) (c1_4 : Nat) (l1_4 : List (S42)) (r : Bool) (w : World) (hr0_0 : Kd.C k105 w A0_0 l0_0.length l0_0) (hc0_0 : l0_0.length ≤ c0_0) (hr0_4 : Kd.C k42 w A0_4 l0_4.length l0_4) (hc0_4 : l0_4.length ≤ c0_4) (hr1_0 : Kd.C k105 w A1_0 l1_0.length l1_0) (hc1_0 : l1_0.length ≤ c1_0) (hr1_4 : Kd.C k42 w A1_4 l1_4.length l1_4) (hc1_4 : l1_4.length ≤ c1_4) (h : laws_eqTarget.f k l0_0 a0_1 a0_2 a0_3 l0_4 l1_0 a1_1 a1_2 a1_3 l1_4 = some r) :
  Calls Try.prog 45 #[.agg #[.slice A0_0 l0_0.length c0_0, .int .i64 a0_1, .int .i64 a0_2, .bool a0_3, .slice A0_4 l0_4.length c0_4], .agg #[.slice A1_0 l1_0.length c1_0, .int .i64 a1_1, .int .i64 a1_2, .bool a1_3, .slice A1_4 l1_4.length c1_4]] w fun e w' => e = .returned (.bool r) ∧ Below w.heap.size w w' := by
 have hu60 := Try.underlying60
 have HR0_0 := am_ hr0_0
 have HC0_0 := am_ hc0_0
 clear hr0_0 hc0_0
 have HR0_4 := am_ hr0_4
 have HC0_4 := am_ hc0_4
 clear hr0_4 hc0_4
 have HR1_0 := am_ hr1_0
 have HC1_0 := am_ hc1_0
 clear hr1_0 hc1_0
 have HR1_4 := am_ hr1_4
 have HC1_4 := am_ hc1_4
 clear hr1_4 hc1_4
 have HB := am_ (Below.refl w.heap.size w)
 have H : ((laws_eqLabelS.f k l0_0 l1_0).bind fun t1003 => (if t1003 = true then (if a0_1 = a1_1 then (if a0_2 = a1_2 then (if (a0_3 != a1_3) = true then (some false) else ((laws_eqRelabelS.f k l0_4 l1_4).bind fun t1004 => (if t1004 = true then (some true) else (some false)))) else (some false)) else (some false)) else (some false))) = some r := h
 clear h
 replace H := Option.bind_eq_some_iff.mp H
 obtain ⟨t1003, A30, H⟩ := H
 replace H : (if t1003 = true then (if a0_1 = a1_1 then (if a0_2 = a1_2 then (if (a0_3 != a1_3) = true then (some false) else ((laws_eqRelabelS.f k l0_4 l1_4).bind fun t1004 => (if t1004 = true then (some true) else (some false)))) else (some false)) else (some false)) else (some false)) = some r := H
 have A3 := am_ A30
 clear A30
 by_cases c4 : t1003 = true
 ·subst c4
  have H1 : (if a0_1 = a1_1 then (if a0_2 = a1_2 then (if (a0_3 != a1_3) = true then (some false) else ((laws_eqRelabelS.f k l0_4 l1_4).bind fun t1004 => (if t1004 = true then (some true) else (some false)))) else (some false)) else (some false)) = some r := by rw [if_pos rfl] at H; exact H
  clear H
  have H := H1
  clear H1
  by_cases c5 : a0_1 = a1_1
  ·rw [if_pos c5] at H
   have c5b0 : (a0_1 == a1_1) = true := beq_iff_eq.mpr c5
   have c5b1 : (a0_1 != a1_1) = false := bne_eq_false_iff_eq.mpr c5
   clear c5
   by_cases c6 : a0_2 = a1_2
   ·rw [if_pos c6] at H
    have c6b0 : (a0_2 == a1_2) = true := beq_iff_eq.mpr c6
    have c6b1 : (a0_2 != a1_2) = false := bne_eq_false_iff_eq.mpr c6
    clear c6
    by_cases c7 : (a0_3 != a1_3) = true
    ·rw [if_pos c7] at H
     have c7b0 : (a0_3 != a1_3) = true := c7
     (try (have c7b1 : decide (a0_3 = a1_3) = false := by simpa using c7))
     (try (have c7b2 : (a0_3 == a1_3) = false := by simpa using c7))
     (try (have c7b3 : ¬ (a0_3 = a1_3) := by simpa using c7))
     clear c7
     obtain rfl := Option.some.inj H
     go_enter Try.func45, Try.ntmps45
     go_wp2_with (first | ((with_reducible refine gate_dst (N := 2) rfl ?_); refine box_event ?hg (N := 2) ?hd (cs := #[.slice A0_0 l0_0.length c0_0, .int .i64 a0_1, .int .i64 a0_2, .bool a0_3, .slice A0_4 l0_4.length c0_4]) (t := 60) ?hr ?_; (case hd => rfl); (case hg => rfl); (case hr => first | (go_simp; done) | (go_simp; rfl)); intro gb1001 hg w8 hbox hb; have n0_ := am_ (below_step bl_ hb); have n1_ := am_ (hbox); have n2_ := am_ (gs_ hg : w.heap.size ≤ gb1001); have n3_ := n2_; clear HB; have HB := n0_; have BK1001 := n1_; have GW1001 := n2_; have GE1001 := n3_; clear n0_ n1_ n2_ n3_; clear hb hbox hg) | ((with_reducible refine gate_dst (N := 3) rfl ?_); refine box_event ?hg (N := 3) ?hd (cs := #[.slice A1_0 l1_0.length c1_0, .int .i64 a1_1, .int .i64 a1_2, .bool a1_3, .slice A1_4 l1_4.length c1_4]) (t := 60) ?hr ?_; (case hd => rfl); (case hg => rfl); (case hr => first | (go_simp; done) | (go_simp; rfl)); intro gb1002 hg w9 hbox hb; have n0_ := am_ (blk_below (g := gb1001) (vk_ BK1001) hb); have n1_ := am_ (below_step bg_ hb); have n2_ := am_ (hbox); have n3_ := am_ (gg_ hg : w.heap.size ≤ gb1002); have n4_ := n3_; have n5_ := am_ ((by rw [hg]; exact Nat.ne_of_lt (blk_lt (g := gb1001) (o := .cells #[.slice A0_0 l0_0.length c0_0, .int .i64 a0_1, .int .i64 a0_2, .bool a0_3, .slice A0_4 l0_4.length c0_4] 60 (0, 0)) (vk_ BK1001)) : gb1001 ≠ gb1002)); have n6_ := am_ ((by rw [hg]; exact Nat.ne_of_gt (blk_lt (g := gb1001) (o := .cells #[.slice A0_0 l0_0.length c0_0, .int .i64 a0_1, .int .i64 a0_2, .bool a0_3, .slice A0_4 l0_4.length c0_4] 60 (0, 0)) (vk_ BK1001)) : gb1002 ≠ gb1001)); clear BK1001; clear HB; have BK1001 := n0_; have HB := n1_; have BK1002 := n2_; have GW1002 := n3_; have GE1002 := n4_; have NB1001_1002 := n5_; have NB1002_1001 := n6_; clear n0_ n1_ n2_ n3_ n4_ n5_ n6_; clear hb hbox hg; have hnb10 := NB1001_1002.out; have hnc10 := NB1002_1001.out; have hcz11_0 := bc5_0 BK1001; have hcz11_1 := bc5_1 BK1001; have hcz11_2 := bc5_2 BK1001; have hcz11_3 := bc5_3 BK1001; have hcz11_4 := bc5_4 BK1001; have hfz11_0 := bf_ BK1001 0; have hfz11_1 := bf_ BK1001 1; have hfz11_2 := bf_ BK1001 2; have hfz11_3 := bf_ BK1001 3; have hfz11_4 := bf_ BK1001 4; have hcz12_0 := bc5_0 BK1002; have hcz12_1 := bc5_1 BK1002; have hcz12_2 := bc5_2 BK1002; have hcz12_3 := bc5_3 BK1002; have hcz12_4 := bc5_4 BK1002; have hfz12_0 := bf_ BK1002 0; have hfz12_1 := bf_ BK1002 1; have hfz12_2 := bf_ BK1002 2; have hfz12_3 := bf_ BK1002 3; have hfz12_4 := bf_ BK1002 4) | ((with_reducible refine gate_callee (f := 40) rfl ?_); refine goesL_ (some 9) rfl rfl Try.func40 (by kernel_rfl) rfl #[.slice A0_0 l0_0.length c0_0, .slice A1_0 l1_0.length c1_0] rfl ag_ ?_; (with_reducible refine (laws_eqLabelS.calls k _ _ l0_0 _ _ l1_0 true _ ?side1 ?side2 ?side3 ?side4 A3.out).mono ?_); (case side1 => exact cc_ (Kd.C_below HR0_0.out HB.out)); (case side2 => exact HC0_0.out); (case side3 => exact cc_ (Kd.C_below HR1_0.out HB.out)); (case side4 => exact HC1_0.out); rintro e w13 ⟨rfl, hb⟩; refine ⟨_, rfl, ?_⟩; have n0_ := am_ (blk_below (g := gb1001) (vk_ BK1001) hb); have n1_ := am_ (blk_below (g := gb1002) (vk_ BK1002) hb); have n2_ := am_ (below_step bg_ hb); clear BK1001; clear BK1002; clear HB; have BK1001 := n0_; have BK1002 := n1_; have HB := n2_; clear n0_ n1_ n2_; (try clear hb); (try clear hb2); (try clear hk); (try clear hi); have hcz14_0 := bc5_0 BK1001; have hcz14_1 := bc5_1 BK1001; have hcz14_2 := bc5_2 BK1001; have hcz14_3 := bc5_3 BK1001; have hcz14_4 := bc5_4 BK1001; have hfz14_0 := bf_ BK1001 0; have hfz14_1 := bf_ BK1001 1; have hfz14_2 := bf_ BK1001 2; have hfz14_3 := bf_ BK1001 3; have hfz14_4 := bf_ BK1001 4; have hcz15_0 := bc5_0 BK1002; have hcz15_1 := bc5_1 BK1002; have hcz15_2 := bc5_2 BK1002; have hcz15_3 := bc5_3 BK1002; have hcz15_4 := bc5_4 BK1002; have hfz15_0 := bf_ BK1002 0; have hfz15_1 := bf_ BK1002 1; have hfz15_2 := bf_ BK1002 2; have hfz15_3 := bf_ BK1002 3; have hfz15_4 := bf_ BK1002 4))
     go_ret
     exact ⟨rf_, bg_⟩
    ·rw [if_neg c7] at H
     have c7b0 : (a0_3 != a1_3) = false := by simpa using c7
     (try (have c7b1 : decide (a0_3 = a1_3) = true := by simpa using c7))
     (try (have c7b2 : (a0_3 == a1_3) = true := by simpa using c7))
     clear c7
     replace H := Option.bind_eq_some_iff.mp H
     obtain ⟨t1004, A160, H⟩ := H
     replace H : (if t1004 = true then (some true) else (some false)) = some r := H
     have A16 := am_ A160
     clear A160
     by_cases c17 : t1004 = true
     ·subst c17
      have H1 : (some true) = some r := by rw [if_pos rfl] at H; exact H
      clear H
      have H := H1
      clear H1
      obtain rfl := Option.some.inj H
      go_enter Try.func45, Try.ntmps45
      go_wp2_with (first | ((with_reducible refine gate_dst (N := 2) rfl ?_); refine box_event ?hg (N := 2) ?hd (cs := #[.slice A0_0 l0_0.length c0_0, .int .i64 a0_1, .int .i64 a0_2, .bool a0_3, .slice A0_4 l0_4.length c0_4]) (t := 60) ?hr ?_; (case hd => rfl); (case hg => rfl); (case hr => first | (go_simp; done) | (go_simp; rfl)); intro gb1001 hg w18 hbox hb; have n0_ := am_ (below_step bl_ hb); have n1_ := am_ (hbox); have n2_ := am_ (gs_ hg : w.heap.size ≤ gb1001); have n3_ := n2_; clear HB; have HB := n0_; have BK1001 := n1_; have GW1001 := n2_; have GE1001 := n3_; clear n0_ n1_ n2_ n3_; clear hb hbox hg) | ((with_reducible refine gate_dst (N := 3) rfl ?_); refine box_event ?hg (N := 3) ?hd (cs := #[.slice A1_0 l1_0.length c1_0, .int .i64 a1_1, .int .i64 a1_2, .bool a1_3, .slice A1_4 l1_4.length c1_4]) (t := 60) ?hr ?_; (case hd => rfl); (case hg => rfl); (case hr => first | (go_simp; done) | (go_simp; rfl)); intro gb1002 hg w19 hbox hb; have n0_ := am_ (blk_below (g := gb1001) (vk_ BK1001) hb); have n1_ := am_ (below_step bg_ hb); have n2_ := am_ (hbox); have n3_ := am_ (gg_ hg : w.heap.size ≤ gb1002); have n4_ := n3_; have n5_ := am_ ((by rw [hg]; exact Nat.ne_of_lt (blk_lt (g := gb1001) (o := .cells #[.slice A0_0 l0_0.length c0_0, .int .i64 a0_1, .int .i64 a0_2, .bool a0_3, .slice A0_4 l0_4.length c0_4] 60 (0, 0)) (vk_ BK1001)) : gb1001 ≠ gb1002)); have n6_ := am_ ((by rw [hg]; exact Nat.ne_of_gt (blk_lt (g := gb1001) (o := .cells #[.slice A0_0 l0_0.length c0_0, .int .i64 a0_1, .int .i64 a0_2, .bool a0_3, .slice A0_4 l0_4.length c0_4] 60 (0, 0)) (vk_ BK1001)) : gb1002 ≠ gb1001)); clear BK1001; clear HB; have BK1001 := n0_; have HB := n1_; have BK1002 := n2_; have GW1002 := n3_; have GE1002 := n4_; have NB1001_1002 := n5_; have NB1002_1001 := n6_; clear n0_ n1_ n2_ n3_ n4_ n5_ n6_; clear hb hbox hg; have hnb20 := NB1001_1002.out; have hnc20 := NB1002_1001.out; have hcz21_0 := bc5_0 BK1001; have hcz21_1 := bc5_1 BK1001; have hcz21_2 := bc5_2 BK1001; have hcz21_3 := bc5_3 BK1001; have hcz21_4 := bc5_4 BK1001; have hfz21_0 := bf_ BK1001 0; have hfz21_1 := bf_ BK1001 1; have hfz21_2 := bf_ BK1001 2; have hfz21_3 := bf_ BK1001 3; have hfz21_4 := bf_ BK1001 4; have hcz22_0 := bc5_0 BK1002; have hcz22_1 := bc5_1 BK1002; have hcz22_2 := bc5_2 BK1002; have hcz22_3 := bc5_3 BK1002; have hcz22_4 := bc5_4 BK1002; have hfz22_0 := bf_ BK1002 0; have hfz22_1 := bf_ BK1002 1; have hfz22_2 := bf_ BK1002 2; have hfz22_3 := bf_ BK1002 3; have hfz22_4 := bf_ BK1002 4) | ((with_reducible refine gate_callee (f := 40) rfl ?_); refine goesL_ (some 9) rfl rfl Try.func40 (by kernel_rfl) rfl #[.slice A0_0 l0_0.length c0_0, .slice A1_0 l1_0.length c1_0] rfl ag_ ?_; (with_reducible refine (laws_eqLabelS.calls k _ _ l0_0 _ _ l1_0 true _ ?side1 ?side2 ?side3 ?side4 A3.out).mono ?_); (case side1 => exact cc_ (Kd.C_below HR0_0.out HB.out)); (case side2 => exact HC0_0.out); (case side3 => exact cc_ (Kd.C_below HR1_0.out HB.out)); (case side4 => exact HC1_0.out); rintro e w23 ⟨rfl, hb⟩; refine ⟨_, rfl, ?_⟩; have n0_ := am_ (blk_below (g := gb1001) (vk_ BK1001) hb); have n1_ := am_ (blk_below (g := gb1002) (vk_ BK1002) hb); have n2_ := am_ (below_step bg_ hb); clear BK1001; clear BK1002; clear HB; have BK1001 := n0_; have BK1002 := n1_; have HB := n2_; clear n0_ n1_ n2_; (try clear hb); (try clear hb2); (try clear hk); (try clear hi); have hcz24_0 := bc5_0 BK1001; have hcz24_1 := bc5_1 BK1001; have hcz24_2 := bc5_2 BK1001; have hcz24_3 := bc5_3 BK1001; have hcz24_4 := bc5_4 BK1001; have hfz24_0 := bf_ BK1001 0; have hfz24_1 := bf_ BK1001 1; have hfz24_2 := bf_ BK1001 2; have hfz24_3 := bf_ BK1001 3; have hfz24_4 := bf_ BK1001 4; have hcz25_0 := bc5_0 BK1002; have hcz25_1 := bc5_1 BK1002; have hcz25_2 := bc5_2 BK1002; have hcz25_3 := bc5_3 BK1002; have hcz25_4 := bc5_4 BK1002; have hfz25_0 := bf_ BK1002 0; have hfz25_1 := bf_ BK1002 1; have hfz25_2 := bf_ BK1002 2; have hfz25_3 := bf_ BK1002 3; have hfz25_4 := bf_ BK1002 4) | ((with_reducible refine gate_callee (f := 101) rfl ?_); refine goesL_ (some 30) rfl rfl Try.func101 (by kernel_rfl) rfl #[.slice A0_4 l0_4.length c0_4, .slice A1_4 l1_4.length c1_4] rfl ag_ ?_; (with_reducible refine (laws_eqRelabelS.calls k _ _ l0_4 _ _ l1_4 true _ ?side1 ?side2 ?side3 ?side4 A16.out).mono ?_); (case side1 => exact cc_ (Kd.C_below HR0_4.out HB.out)); (case side2 => exact HC0_4.out); (case side3 => exact cc_ (Kd.C_below HR1_4.out HB.out)); (case side4 => exact HC1_4.out); rintro e w26 ⟨rfl, hb⟩; refine ⟨_, rfl, ?_⟩; have n0_ := am_ (blk_below (g := gb1001) (vk_ BK1001) hb); have n1_ := am_ (blk_below (g := gb1002) (vk_ BK1002) hb); have n2_ := am_ (below_step bg_ hb); clear BK1001; clear BK1002; clear HB; have BK1001 := n0_; have BK1002 := n1_; have HB := n2_; clear n0_ n1_ n2_; (try clear hb); (try clear hb2); (try clear hk); (try clear hi)))
      go_ret
      exact ⟨rf_, bg_⟩
     ·replace c17 := Bool.eq_false_iff.mpr c17
      subst c17
      have H1 : (some false) = some r := by rw [if_neg (show ¬ (false = true) by decide)] at H; exact H
      clear H
      have H := H1
      clear H1
      obtain rfl := Option.some.inj H
      go_enter Try.func45, Try.ntmps45
      go_wp2_with (first | ((with_reducible refine gate_dst (N := 2) rfl ?_); refine box_event ?hg (N := 2) ?hd (cs := #[.slice A0_0 l0_0.length c0_0, .int .i64 a0_1, .int .i64 a0_2, .bool a0_3, .slice A0_4 l0_4.length c0_4]) (t := 60) ?hr ?_; (case hd => rfl); (case hg => rfl); (case hr => first | (go_simp; done) | (go_simp; rfl)); intro gb1001 hg w27 hbox hb; have n0_ := am_ (below_step bl_ hb); have n1_ := am_ (hbox); have n2_ := am_ (gs_ hg : w.heap.size ≤ gb1001); have n3_ := n2_; clear HB; have HB := n0_; have BK1001 := n1_; have GW1001 := n2_; have GE1001 := n3_; clear n0_ n1_ n2_ n3_; clear hb hbox hg) | ((with_reducible refine gate_dst (N := 3) rfl ?_); refine box_event ?hg (N := 3) ?hd (cs := #[.slice A1_0 l1_0.length c1_0, .int .i64 a1_1, .int .i64 a1_2, .bool a1_3, .slice A1_4 l1_4.length c1_4]) (t := 60) ?hr ?_; (case hd => rfl); (case hg => rfl); (case hr => first | (go_simp; done) | (go_simp; rfl)); intro gb1002 hg w28 hbox hb; have n0_ := am_ (blk_below (g := gb1001) (vk_ BK1001) hb); have n1_ := am_ (below_step bg_ hb); have n2_ := am_ (hbox); have n3_ := am_ (gg_ hg : w.heap.size ≤ gb1002); have n4_ := n3_; have n5_ := am_ ((by rw [hg]; exact Nat.ne_of_lt (blk_lt (g := gb1001) (o := .cells #[.slice A0_0 l0_0.length c0_0, .int .i64 a0_1, .int .i64 a0_2, .bool a0_3, .slice A0_4 l0_4.length c0_4] 60 (0, 0)) (vk_ BK1001)) : gb1001 ≠ gb1002)); have n6_ := am_ ((by rw [hg]; exact Nat.ne_of_gt (blk_lt (g := gb1001) (o := .cells #[.slice A0_0 l0_0.length c0_0, .int .i64 a0_1, .int .i64 a0_2, .bool a0_3, .slice A0_4 l0_4.length c0_4] 60 (0, 0)) (vk_ BK1001)) : gb1002 ≠ gb1001)); clear BK1001; clear HB; have BK1001 := n0_; have HB := n1_; have BK1002 := n2_; have GW1002 := n3_; have GE1002 := n4_; have NB1001_1002 := n5_; have NB1002_1001 := n6_; clear n0_ n1_ n2_ n3_ n4_ n5_ n6_; clear hb hbox hg; have hnb29 := NB1001_1002.out; have hnc29 := NB1002_1001.out; have hcz30_0 := bc5_0 BK1001; have hcz30_1 := bc5_1 BK1001; have hcz30_2 := bc5_2 BK1001; have hcz30_3 := bc5_3 BK1001; have hcz30_4 := bc5_4 BK1001; have hfz30_0 := bf_ BK1001 0; have hfz30_1 := bf_ BK1001 1; have hfz30_2 := bf_ BK1001 2; have hfz30_3 := bf_ BK1001 3; have hfz30_4 := bf_ BK1001 4; have hcz31_0 := bc5_0 BK1002; have hcz31_1 := bc5_1 BK1002; have hcz31_2 := bc5_2 BK1002; have hcz31_3 := bc5_3 BK1002; have hcz31_4 := bc5_4 BK1002; have hfz31_0 := bf_ BK1002 0; have hfz31_1 := bf_ BK1002 1; have hfz31_2 := bf_ BK1002 2; have hfz31_3 := bf_ BK1002 3; have hfz31_4 := bf_ BK1002 4) | ((with_reducible refine gate_callee (f := 40) rfl ?_); refine goesL_ (some 9) rfl rfl Try.func40 (by kernel_rfl) rfl #[.slice A0_0 l0_0.length c0_0, .slice A1_0 l1_0.length c1_0] rfl ag_ ?_; (with_reducible refine (laws_eqLabelS.calls k _ _ l0_0 _ _ l1_0 true _ ?side1 ?side2 ?side3 ?side4 A3.out).mono ?_); (case side1 => exact cc_ (Kd.C_below HR0_0.out HB.out)); (case side2 => exact HC0_0.out); (case side3 => exact cc_ (Kd.C_below HR1_0.out HB.out)); (case side4 => exact HC1_0.out); rintro e w32 ⟨rfl, hb⟩; refine ⟨_, rfl, ?_⟩; have n0_ := am_ (blk_below (g := gb1001) (vk_ BK1001) hb); have n1_ := am_ (blk_below (g := gb1002) (vk_ BK1002) hb); have n2_ := am_ (below_step bg_ hb); clear BK1001; clear BK1002; clear HB; have BK1001 := n0_; have BK1002 := n1_; have HB := n2_; clear n0_ n1_ n2_; (try clear hb); (try clear hb2); (try clear hk); (try clear hi); have hcz33_0 := bc5_0 BK1001; have hcz33_1 := bc5_1 BK1001; have hcz33_2 := bc5_2 BK1001; have hcz33_3 := bc5_3 BK1001; have hcz33_4 := bc5_4 BK1001; have hfz33_0 := bf_ BK1001 0; have hfz33_1 := bf_ BK1001 1; have hfz33_2 := bf_ BK1001 2; have hfz33_3 := bf_ BK1001 3; have hfz33_4 := bf_ BK1001 4; have hcz34_0 := bc5_0 BK1002; have hcz34_1 := bc5_1 BK1002; have hcz34_2 := bc5_2 BK1002; have hcz34_3 := bc5_3 BK1002; have hcz34_4 := bc5_4 BK1002; have hfz34_0 := bf_ BK1002 0; have hfz34_1 := bf_ BK1002 1; have hfz34_2 := bf_ BK1002 2; have hfz34_3 := bf_ BK1002 3; have hfz34_4 := bf_ BK1002 4) | ((with_reducible refine gate_callee (f := 101) rfl ?_); refine goesL_ (some 30) rfl rfl Try.func101 (by kernel_rfl) rfl #[.slice A0_4 l0_4.length c0_4, .slice A1_4 l1_4.length c1_4] rfl ag_ ?_; (with_reducible refine (laws_eqRelabelS.calls k _ _ l0_4 _ _ l1_4 false _ ?side1 ?side2 ?side3 ?side4 A16.out).mono ?_); (case side1 => exact cc_ (Kd.C_below HR0_4.out HB.out)); (case side2 => exact HC0_4.out); (case side3 => exact cc_ (Kd.C_below HR1_4.out HB.out)); (case side4 => exact HC1_4.out); rintro e w35 ⟨rfl, hb⟩; refine ⟨_, rfl, ?_⟩; have n0_ := am_ (blk_below (g := gb1001) (vk_ BK1001) hb); have n1_ := am_ (blk_below (g := gb1002) (vk_ BK1002) hb); have n2_ := am_ (below_step bg_ hb); clear BK1001; clear BK1002; clear HB; have BK1001 := n0_; have BK1002 := n1_; have HB := n2_; clear n0_ n1_ n2_; (try clear hb); (try clear hb2); (try clear hk); (try clear hi)))
      go_ret
      exact ⟨rf_, bg_⟩
   ·rw [if_neg c6] at H
    have c6b0 : (a0_2 == a1_2) = false := beq_eq_false_iff_ne.mpr c6
    have c6b1 : (a0_2 != a1_2) = true := bne_iff_ne.mpr c6
    obtain rfl := Option.some.inj H
    go_enter Try.func45, Try.ntmps45
    go_wp2_with (first | ((with_reducible refine gate_dst (N := 2) rfl ?_); refine box_event ?hg (N := 2) ?hd (cs := #[.slice A0_0 l0_0.length c0_0, .int .i64 a0_1, .int .i64 a0_2, .bool a0_3, .slice A0_4 l0_4.length c0_4]) (t := 60) ?hr ?_; (case hd => rfl); (case hg => rfl); (case hr => first | (go_simp; done) | (go_simp; rfl)); intro gb1001 hg w36 hbox hb; have n0_ := am_ (below_step bl_ hb); have n1_ := am_ (hbox); have n2_ := am_ (gs_ hg : w.heap.size ≤ gb1001); have n3_ := n2_; clear HB; have HB := n0_; have BK1001 := n1_; have GW1001 := n2_; have GE1001 := n3_; clear n0_ n1_ n2_ n3_; clear hb hbox hg) | ((with_reducible refine gate_dst (N := 3) rfl ?_); refine box_event ?hg (N := 3) ?hd (cs := #[.slice A1_0 l1_0.length c1_0, .int .i64 a1_1, .int .i64 a1_2, .bool a1_3, .slice A1_4 l1_4.length c1_4]) (t := 60) ?hr ?_; (case hd => rfl); (case hg => rfl); (case hr => first | (go_simp; done) | (go_simp; rfl)); intro gb1002 hg w37 hbox hb; have n0_ := am_ (blk_below (g := gb1001) (vk_ BK1001) hb); have n1_ := am_ (below_step bg_ hb); have n2_ := am_ (hbox); have n3_ := am_ (gg_ hg : w.heap.size ≤ gb1002); have n4_ := n3_; have n5_ := am_ ((by rw [hg]; exact Nat.ne_of_lt (blk_lt (g := gb1001) (o := .cells #[.slice A0_0 l0_0.length c0_0, .int .i64 a0_1, .int .i64 a0_2, .bool a0_3, .slice A0_4 l0_4.length c0_4] 60 (0, 0)) (vk_ BK1001)) : gb1001 ≠ gb1002)); have n6_ := am_ ((by rw [hg]; exact Nat.ne_of_gt (blk_lt (g := gb1001) (o := .cells #[.slice A0_0 l0_0.length c0_0, .int .i64 a0_1, .int .i64 a0_2, .bool a0_3, .slice A0_4 l0_4.length c0_4] 60 (0, 0)) (vk_ BK1001)) : gb1002 ≠ gb1001)); clear BK1001; clear HB; have BK1001 := n0_; have HB := n1_; have BK1002 := n2_; have GW1002 := n3_; have GE1002 := n4_; have NB1001_1002 := n5_; have NB1002_1001 := n6_; clear n0_ n1_ n2_ n3_ n4_ n5_ n6_; clear hb hbox hg; have hnb38 := NB1001_1002.out; have hnc38 := NB1002_1001.out; have hcz39_0 := bc5_0 BK1001; have hcz39_1 := bc5_1 BK1001; have hcz39_2 := bc5_2 BK1001; have hcz39_3 := bc5_3 BK1001; have hcz39_4 := bc5_4 BK1001; have hfz39_0 := bf_ BK1001 0; have hfz39_1 := bf_ BK1001 1; have hfz39_2 := bf_ BK1001 2; have hfz39_3 := bf_ BK1001 3; have hfz39_4 := bf_ BK1001 4; have hcz40_0 := bc5_0 BK1002; have hcz40_1 := bc5_1 BK1002; have hcz40_2 := bc5_2 BK1002; have hcz40_3 := bc5_3 BK1002; have hcz40_4 := bc5_4 BK1002; have hfz40_0 := bf_ BK1002 0; have hfz40_1 := bf_ BK1002 1; have hfz40_2 := bf_ BK1002 2; have hfz40_3 := bf_ BK1002 3; have hfz40_4 := bf_ BK1002 4) | ((with_reducible refine gate_callee (f := 40) rfl ?_); refine goesL_ (some 9) rfl rfl Try.func40 (by kernel_rfl) rfl #[.slice A0_0 l0_0.length c0_0, .slice A1_0 l1_0.length c1_0] rfl ag_ ?_; (with_reducible refine (laws_eqLabelS.calls k _ _ l0_0 _ _ l1_0 true _ ?side1 ?side2 ?side3 ?side4 A3.out).mono ?_); (case side1 => exact cc_ (Kd.C_below HR0_0.out HB.out)); (case side2 => exact HC0_0.out); (case side3 => exact cc_ (Kd.C_below HR1_0.out HB.out)); (case side4 => exact HC1_0.out); rintro e w41 ⟨rfl, hb⟩; refine ⟨_, rfl, ?_⟩; have n0_ := am_ (blk_below (g := gb1001) (vk_ BK1001) hb); have n1_ := am_ (blk_below (g := gb1002) (vk_ BK1002) hb); have n2_ := am_ (below_step bg_ hb); clear BK1001; clear BK1002; clear HB; have BK1001 := n0_; have BK1002 := n1_; have HB := n2_; clear n0_ n1_ n2_; (try clear hb); (try clear hb2); (try clear hk); (try clear hi); have hcz42_0 := bc5_0 BK1001; have hcz42_1 := bc5_1 BK1001; have hcz42_2 := bc5_2 BK1001; have hcz42_3 := bc5_3 BK1001; have hcz42_4 := bc5_4 BK1001; have hfz42_0 := bf_ BK1001 0; have hfz42_1 := bf_ BK1001 1; have hfz42_2 := bf_ BK1001 2; have hfz42_3 := bf_ BK1001 3; have hfz42_4 := bf_ BK1001 4; have hcz43_0 := bc5_0 BK1002; have hcz43_1 := bc5_1 BK1002; have hcz43_2 := bc5_2 BK1002; have hcz43_3 := bc5_3 BK1002; have hcz43_4 := bc5_4 BK1002; have hfz43_0 := bf_ BK1002 0; have hfz43_1 := bf_ BK1002 1; have hfz43_2 := bf_ BK1002 2; have hfz43_3 := bf_ BK1002 3; have hfz43_4 := bf_ BK1002 4))
    go_ret
    exact ⟨rf_, bg_⟩
  ·rw [if_neg c5] at H
   have c5b0 : (a0_1 == a1_1) = false := beq_eq_false_iff_ne.mpr c5
   have c5b1 : (a0_1 != a1_1) = true := bne_iff_ne.mpr c5
   obtain rfl := Option.some.inj H
   go_enter Try.func45, Try.ntmps45
   go_wp2_with (first | ((with_reducible refine gate_dst (N := 2) rfl ?_); refine box_event ?hg (N := 2) ?hd (cs := #[.slice A0_0 l0_0.length c0_0, .int .i64 a0_1, .int .i64 a0_2, .bool a0_3, .slice A0_4 l0_4.length c0_4]) (t := 60) ?hr ?_; (case hd => rfl); (case hg => rfl); (case hr => first | (go_simp; done) | (go_simp; rfl)); intro gb1001 hg w44 hbox hb; have n0_ := am_ (below_step bl_ hb); have n1_ := am_ (hbox); have n2_ := am_ (gs_ hg : w.heap.size ≤ gb1001); have n3_ := n2_; clear HB; have HB := n0_; have BK1001 := n1_; have GW1001 := n2_; have GE1001 := n3_; clear n0_ n1_ n2_ n3_; clear hb hbox hg) | ((with_reducible refine gate_dst (N := 3) rfl ?_); refine box_event ?hg (N := 3) ?hd (cs := #[.slice A1_0 l1_0.length c1_0, .int .i64 a1_1, .int .i64 a1_2, .bool a1_3, .slice A1_4 l1_4.length c1_4]) (t := 60) ?hr ?_; (case hd => rfl); (case hg => rfl); (case hr => first | (go_simp; done) | (go_simp; rfl)); intro gb1002 hg w45 hbox hb; have n0_ := am_ (blk_below (g := gb1001) (vk_ BK1001) hb); have n1_ := am_ (below_step bg_ hb); have n2_ := am_ (hbox); have n3_ := am_ (gg_ hg : w.heap.size ≤ gb1002); have n4_ := n3_; have n5_ := am_ ((by rw [hg]; exact Nat.ne_of_lt (blk_lt (g := gb1001) (o := .cells #[.slice A0_0 l0_0.length c0_0, .int .i64 a0_1, .int .i64 a0_2, .bool a0_3, .slice A0_4 l0_4.length c0_4] 60 (0, 0)) (vk_ BK1001)) : gb1001 ≠ gb1002)); have n6_ := am_ ((by rw [hg]; exact Nat.ne_of_gt (blk_lt (g := gb1001) (o := .cells #[.slice A0_0 l0_0.length c0_0, .int .i64 a0_1, .int .i64 a0_2, .bool a0_3, .slice A0_4 l0_4.length c0_4] 60 (0, 0)) (vk_ BK1001)) : gb1002 ≠ gb1001)); clear BK1001; clear HB; have BK1001 := n0_; have HB := n1_; have BK1002 := n2_; have GW1002 := n3_; have GE1002 := n4_; have NB1001_1002 := n5_; have NB1002_1001 := n6_; clear n0_ n1_ n2_ n3_ n4_ n5_ n6_; clear hb hbox hg; have hnb46 := NB1001_1002.out; have hnc46 := NB1002_1001.out; have hcz47_0 := bc5_0 BK1001; have hcz47_1 := bc5_1 BK1001; have hcz47_2 := bc5_2 BK1001; have hcz47_3 := bc5_3 BK1001; have hcz47_4 := bc5_4 BK1001; have hfz47_0 := bf_ BK1001 0; have hfz47_1 := bf_ BK1001 1; have hfz47_2 := bf_ BK1001 2; have hfz47_3 := bf_ BK1001 3; have hfz47_4 := bf_ BK1001 4; have hcz48_0 := bc5_0 BK1002; have hcz48_1 := bc5_1 BK1002; have hcz48_2 := bc5_2 BK1002; have hcz48_3 := bc5_3 BK1002; have hcz48_4 := bc5_4 BK1002; have hfz48_0 := bf_ BK1002 0; have hfz48_1 := bf_ BK1002 1; have hfz48_2 := bf_ BK1002 2; have hfz48_3 := bf_ BK1002 3; have hfz48_4 := bf_ BK1002 4) | ((with_reducible refine gate_callee (f := 40) rfl ?_); refine goesL_ (some 9) rfl rfl Try.func40 (by kernel_rfl) rfl #[.slice A0_0 l0_0.length c0_0, .slice A1_0 l1_0.length c1_0] rfl ag_ ?_; (with_reducible refine (laws_eqLabelS.calls k _ _ l0_0 _ _ l1_0 true _ ?side1 ?side2 ?side3 ?side4 A3.out).mono ?_); (case side1 => exact cc_ (Kd.C_below HR0_0.out HB.out)); (case side2 => exact HC0_0.out); (case side3 => exact cc_ (Kd.C_below HR1_0.out HB.out)); (case side4 => exact HC1_0.out); rintro e w49 ⟨rfl, hb⟩; refine ⟨_, rfl, ?_⟩; have n0_ := am_ (blk_below (g := gb1001) (vk_ BK1001) hb); have n1_ := am_ (blk_below (g := gb1002) (vk_ BK1002) hb); have n2_ := am_ (below_step bg_ hb); clear BK1001; clear BK1002; clear HB; have BK1001 := n0_; have BK1002 := n1_; have HB := n2_; clear n0_ n1_ n2_; (try clear hb); (try clear hb2); (try clear hk); (try clear hi); have hcz50_0 := bc5_0 BK1001; have hcz50_1 := bc5_1 BK1001; have hcz50_2 := bc5_2 BK1001; have hcz50_3 := bc5_3 BK1001; have hcz50_4 := bc5_4 BK1001; have hfz50_0 := bf_ BK1001 0; have hfz50_1 := bf_ BK1001 1; have hfz50_2 := bf_ BK1001 2; have hfz50_3 := bf_ BK1001 3; have hfz50_4 := bf_ BK1001 4; have hcz51_0 := bc5_0 BK1002; have hcz51_1 := bc5_1 BK1002; have hcz51_2 := bc5_2 BK1002; have hcz51_3 := bc5_3 BK1002; have hcz51_4 := bc5_4 BK1002; have hfz51_0 := bf_ BK1002 0; have hfz51_1 := bf_ BK1002 1; have hfz51_2 := bf_ BK1002 2; have hfz51_3 := bf_ BK1002 3; have hfz51_4 := bf_ BK1002 4))
   go_ret
   exact ⟨rf_, bg_⟩
 ·replace c4 := Bool.eq_false_iff.mpr c4
  subst c4
  have H1 : (some false) = some r := by rw [if_neg (show ¬ (false = true) by decide)] at H; exact H
  clear H
  have H := H1
  clear H1
  obtain rfl := Option.some.inj H
  go_enter Try.func45, Try.ntmps45
  go_wp2_with (first | ((with_reducible refine gate_dst (N := 2) rfl ?_); refine box_event ?hg (N := 2) ?hd (cs := #[.slice A0_0 l0_0.length c0_0, .int .i64 a0_1, .int .i64 a0_2, .bool a0_3, .slice A0_4 l0_4.length c0_4]) (t := 60) ?hr ?_; (case hd => rfl); (case hg => rfl); (case hr => first | (go_simp; done) | (go_simp; rfl)); intro gb1001 hg w52 hbox hb; have n0_ := am_ (below_step bl_ hb); have n1_ := am_ (hbox); have n2_ := am_ (gs_ hg : w.heap.size ≤ gb1001); have n3_ := n2_; clear HB; have HB := n0_; have BK1001 := n1_; have GW1001 := n2_; have GE1001 := n3_; clear n0_ n1_ n2_ n3_; clear hb hbox hg) | ((with_reducible refine gate_dst (N := 3) rfl ?_); refine box_event ?hg (N := 3) ?hd (cs := #[.slice A1_0 l1_0.length c1_0, .int .i64 a1_1, .int .i64 a1_2, .bool a1_3, .slice A1_4 l1_4.length c1_4]) (t := 60) ?hr ?_; (case hd => rfl); (case hg => rfl); (case hr => first | (go_simp; done) | (go_simp; rfl)); intro gb1002 hg w53 hbox hb; have n0_ := am_ (blk_below (g := gb1001) (vk_ BK1001) hb); have n1_ := am_ (below_step bg_ hb); have n2_ := am_ (hbox); have n3_ := am_ (gg_ hg : w.heap.size ≤ gb1002); have n4_ := n3_; have n5_ := am_ ((by rw [hg]; exact Nat.ne_of_lt (blk_lt (g := gb1001) (o := .cells #[.slice A0_0 l0_0.length c0_0, .int .i64 a0_1, .int .i64 a0_2, .bool a0_3, .slice A0_4 l0_4.length c0_4] 60 (0, 0)) (vk_ BK1001)) : gb1001 ≠ gb1002)); have n6_ := am_ ((by rw [hg]; exact Nat.ne_of_gt (blk_lt (g := gb1001) (o := .cells #[.slice A0_0 l0_0.length c0_0, .int .i64 a0_1, .int .i64 a0_2, .bool a0_3, .slice A0_4 l0_4.length c0_4] 60 (0, 0)) (vk_ BK1001)) : gb1002 ≠ gb1001)); clear BK1001; clear HB; have BK1001 := n0_; have HB := n1_; have BK1002 := n2_; have GW1002 := n3_; have GE1002 := n4_; have NB1001_1002 := n5_; have NB1002_1001 := n6_; clear n0_ n1_ n2_ n3_ n4_ n5_ n6_; clear hb hbox hg; have hnb54 := NB1001_1002.out; have hnc54 := NB1002_1001.out; have hcz55_0 := bc5_0 BK1001; have hcz55_1 := bc5_1 BK1001; have hcz55_2 := bc5_2 BK1001; have hcz55_3 := bc5_3 BK1001; have hcz55_4 := bc5_4 BK1001; have hfz55_0 := bf_ BK1001 0; have hfz55_1 := bf_ BK1001 1; have hfz55_2 := bf_ BK1001 2; have hfz55_3 := bf_ BK1001 3; have hfz55_4 := bf_ BK1001 4; have hcz56_0 := bc5_0 BK1002; have hcz56_1 := bc5_1 BK1002; have hcz56_2 := bc5_2 BK1002; have hcz56_3 := bc5_3 BK1002; have hcz56_4 := bc5_4 BK1002; have hfz56_0 := bf_ BK1002 0; have hfz56_1 := bf_ BK1002 1; have hfz56_2 := bf_ BK1002 2; have hfz56_3 := bf_ BK1002 3; have hfz56_4 := bf_ BK1002 4) | ((with_reducible refine gate_callee (f := 40) rfl ?_); refine goesL_ (some 9) rfl rfl Try.func40 (by kernel_rfl) rfl #[.slice A0_0 l0_0.length c0_0, .slice A1_0 l1_0.length c1_0] rfl ag_ ?_; (with_reducible refine (laws_eqLabelS.calls k _ _ l0_0 _ _ l1_0 false _ ?side1 ?side2 ?side3 ?side4 A3.out).mono ?_); (case side1 => exact cc_ (Kd.C_below HR0_0.out HB.out)); (case side2 => exact HC0_0.out); (case side3 => exact cc_ (Kd.C_below HR1_0.out HB.out)); (case side4 => exact HC1_0.out); rintro e w57 ⟨rfl, hb⟩; refine ⟨_, rfl, ?_⟩; have n0_ := am_ (blk_below (g := gb1001) (vk_ BK1001) hb); have n1_ := am_ (blk_below (g := gb1002) (vk_ BK1002) hb); have n2_ := am_ (below_step bg_ hb); clear BK1001; clear BK1002; clear HB; have BK1001 := n0_; have BK1002 := n1_; have HB := n2_; clear n0_ n1_ n2_; (try clear hb); (try clear hb2); (try clear hk); (try clear hi)))
  go_ret
  exact ⟨rf_, bg_⟩

end Go.Proofs.Ytnnlgbpfdnaalaa.Pr
