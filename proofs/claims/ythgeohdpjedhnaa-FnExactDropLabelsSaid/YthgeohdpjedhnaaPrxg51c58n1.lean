/- Functions of the given program as plain Lean functions, and that the machine's calls come to them; written by a program of this session; no condition but those that each theorem states. -/
import Derived.Test.YthgeohdpjedhnaaPrx0
namespace Go.Proofs.Ythgeohdpjedhnaa.Pr
open Go.RowKit Go.Proofs.YthgeohdpjedhnaaW.PrintWords Go.Proofs.YthgeohdpjedhnaaW.PrintLast Go.Proofs.YthgeohdpjedhnaaW.PrintMore
attribute [local go_sem] max2_int min2_int max_two min_two max_three min_three max_four min_four   -- for this text's walks alone
set_option linter.unusedVariables false
set_option linter.unusedSimpArgs false

/-! ### spec_l2Has: function 124 -/
def spec_l2Has.l0 : Nat → ByteArray → List ByteArray → Int → Int → Option (Bool)
 | 0, _, _, _, _ => none
 | k + 1, x1, x7, x8, x9 => if x9 < x8 then (if 0 ≤ x9 then (if x9 < (x7.length : Int) then (if (rdOf ByteArray.empty x7 x9).toList = x1.toList then (some true) else (spec_l2Has.l0 k x1 x7 x8 (wrap64 (x9 + 1)))) else (none)) else (none)) else (some false)
def spec_l2Has.f (k : Nat) (l0 : List ByteArray) (a1 : ByteArray) : Option (Bool) := spec_l2Has.l0 k a1 l0 (l0.length : Int) 0
theorem spec_l2Has.mono_l : ∀ k, (∀ y0 y1 y2 y3, LeO (spec_l2Has.l0 k y0 y1 y2 y3) (spec_l2Has.l0 (k + 1) y0 y1 y2 y3))
 | 0 => fun _ _ _ _ r h => by simp [spec_l2Has.l0] at h
 | k + 1 => by
  have ih0 := spec_l2Has.mono_l k
  ·intro y0 y1 y2 y3
   unfold spec_l2Has.l0
   repeat' first
   | with_reducible first | exact ih0 _ _ _ _ | exact LeO.refl _ | exact LeO.none _ | refine LeO.ite ?_ ?_ | refine LeO.bind ?_ (fun _ => ?_)
   | exact ih0 _ _ _ _
   | exact LeO.none _
   | refine LeO.ite ?_ ?_
   | refine LeO.bind ?_ (fun _ => ?_)
theorem spec_l2Has.mono : ∀ a0 a1 k, LeO (spec_l2Has.f k a0 a1) (spec_l2Has.f (k + 1) a0 a1) := by
 intro a0 a1 k
 have ih0 := spec_l2Has.mono_l k
 unfold spec_l2Has.f
 repeat' first
   | with_reducible first | exact ih0 _ _ _ _ | exact LeO.refl _ | exact LeO.none _ | refine LeO.ite ?_ ?_ | refine LeO.bind ?_ (fun _ => ?_)
   | exact ih0 _ _ _ _
   | exact LeO.none _
   | refine LeO.ite ?_ ?_
   | refine LeO.bind ?_ (fun _ => ?_)
set_option maxHeartbeats 8000000 in
set_option maxRecDepth 100000 in
theorem spec_l2Has.calls (k : Nat) (A0 : Option Addr) (c0 : Nat) (l0 : List ByteArray) (a1 : ByteArray) (r : Bool) (w : World) (hr0 : Kd.C Kd.string w A0 l0.length l0) (hc0 : l0.length ≤ c0) (h : spec_l2Has.f k l0 a1 = some r) :
  Calls Try.prog 124 #[.slice A0 l0.length c0, .string a1] w fun e w' => e = .returned (.bool r) ∧ Drawn0 w w' := by
 have HR0 := am_ hr0
 have HC0 := am_ hc0
 clear hr0 hc0
 have H : (spec_l2Has.l0 k a1 l0 (l0.length : Int) 0) = some r := h
 clear h
 have H' := am_ H
 clear H
 go_enter Try.func124, Try.ntmps124
 go_wp2
 go_loopg [9] k (fun kq v9 w' => ∃ (x9_1 : Int), v9 = .int .i64 x9_1 ∧ Aside0 (spec_l2Has.l0 kq a1 l0 (l0.length : Int) x9_1 = some r) ∧ Aside0 (kq ≤ k) ∧ Drawn0 w w')
 case atStart => exact ⟨(0), rs_, H', ⟨Nat.le_refl _⟩, by repeat (first | exact Drawn0.refl _ | apply Drawn0.step)⟩
 case round =>
  clear H'
  try clear c1
  try clear p2
  obtain ⟨x9_1, rfl, HA, HK1, ⟨m1, rfl⟩⟩ := hrel
  cases gk with
  | zero => exact absurd HA.out (by simp [spec_l2Has.l0])
  | succ k1 =>
   have H := HA.out
   clear HA
   simp only [spec_l2Has.l0] at H
   by_cases c3 : x9_1 < (l0.length : Int)
   ·rw [if_pos c3] at H
    have c3b0 : decide (x9_1 < (l0.length : Int)) = true := decide_eq_true c3
    clear c3
    by_cases c4 : 0 ≤ x9_1
    ·rw [if_pos c4] at H
     have c4b0 : decide (0 ≤ x9_1) = true := decide_eq_true c4
     clear c4
     by_cases c5 : x9_1 < (l0.length : Int)
     ·rw [if_pos c5] at H
      have c5b0 : decide (x9_1 < (l0.length : Int)) = true := decide_eq_true c5
      clear c5
      by_cases c6 : (rdOf ByteArray.empty l0 x9_1).toList = a1.toList
      ·rw [if_pos c6] at H
       have c6b0 : ((rdOf ByteArray.empty l0 x9_1).toList == a1.toList) = true := beq_iff_eq.mpr c6
       have c6b1 : ((rdOf ByteArray.empty l0 x9_1).toList != a1.toList) = false := bne_eq_false_iff_eq.mpr c6
       clear c6
       obtain rfl := Option.some.inj H
       have p1001 : 0 ≤ (x9_1 : Int) := od_
       have q1001 : x9_1 < (l0.length : Int) := od_
       obtain ⟨ad1001, e1001, hx1001_0⟩ := Kd.at_string HR0.out x9_1 p1001 q1001
       cases e1001
       replace p1001 := eq_true p1001
       replace q1001 := eq_true q1001
       go_wp2
       go_ret
       exact ⟨by first | rfl | (simp; done) | (simp [*]; done), by repeat (first | exact Drawn0.refl _ | apply Drawn0.step)⟩
      ·rw [if_neg c6] at H
       have c6b0 : ((rdOf ByteArray.empty l0 x9_1).toList == a1.toList) = false := beq_eq_false_iff_ne.mpr c6
       have c6b1 : ((rdOf ByteArray.empty l0 x9_1).toList != a1.toList) = true := bne_iff_ne.mpr c6
       have H' := am_ H
       clear H
       have p1001 : 0 ≤ (x9_1 : Int) := od_
       have q1001 : x9_1 < (l0.length : Int) := od_
       obtain ⟨ad1001, e1001, hx1001_0⟩ := Kd.at_string HR0.out x9_1 p1001 q1001
       cases e1001
       replace p1001 := eq_true p1001
       replace q1001 := eq_true q1001
       go_wp2
       go_roundg k1
       case measure => have := HK1.out; omega
       case rel => exact ⟨(wrap64 (x9_1 + 1)), rs_, H', ⟨by have := HK1.out; omega⟩, by repeat (first | exact Drawn0.refl _ | apply Drawn0.step)⟩
     ·rw [if_neg c5] at H
      exact absurd H (by simp)
    ·rw [if_neg c4] at H
     exact absurd H (by simp)
   ·rw [if_neg c3] at H
    have c3b0 : decide (x9_1 < (l0.length : Int)) = false := decide_eq_false c3
    clear c3
    obtain rfl := Option.some.inj H
    go_wp2
    go_ret
    exact ⟨by first | rfl | (simp; done) | (simp [*]; done), by repeat (first | exact Drawn0.refl _ | apply Drawn0.step)⟩

/-! ### spec_l2Some: function 77 -/
def spec_l2Some.l0 : Nat → List ByteArray → Bool → List (S86) → List (S86) → Int → Int → Option ((List (S86)))
 | 0, _, _, _, _, _, _ => none
 | k + 1, x1, x2, x7, x10, x11, x12 => if x12 < x11 then (if 0 ≤ x12 then (if x12 < (x10.length : Int) then ((spec_l2Has.f k x1 ((rd_T86 x10 x12).f0)).bind fun t1003 => (if (t1003 == x2) = true then (if x7.length < 4398046511104 then (spec_l2Some.l0 k x1 x2 (x7 ++ [(⟨(rd_T86 x10 x12).f0, (rd_T86 x10 x12).f1⟩ : S86)]) x10 x11 (wrap64 (x12 + 1))) else (none)) else (spec_l2Some.l0 k x1 x2 x7 x10 x11 (wrap64 (x12 + 1))))) else (none)) else (none)) else (some x7)
def spec_l2Some.f (k : Nat) (l0 : List (S86)) (l1 : List ByteArray) (a2 : Bool) : Option ((List (S86))) := spec_l2Some.l0 k l1 a2 ([] : List (S86)) l0 (l0.length : Int) 0
theorem spec_l2Some.mono_l : ∀ k, (∀ y0 y1 y2 y3 y4 y5, LeO (spec_l2Some.l0 k y0 y1 y2 y3 y4 y5) (spec_l2Some.l0 (k + 1) y0 y1 y2 y3 y4 y5))
 | 0 => fun _ _ _ _ _ _ r h => by simp [spec_l2Some.l0] at h
 | k + 1 => by
  have ih0 := spec_l2Some.mono_l k
  ·intro y0 y1 y2 y3 y4 y5
   unfold spec_l2Some.l0
   repeat' first
   | with_reducible first | exact ih0 _ _ _ _ _ _ | exact spec_l2Has.mono _ _ _ | exact LeO.refl _ | exact LeO.none _ | refine LeO.ite ?_ ?_ | refine LeO.bind ?_ (fun _ => ?_)
   | exact ih0 _ _ _ _ _ _
   | exact spec_l2Has.mono _ _ _
   | exact LeO.none _
   | refine LeO.ite ?_ ?_
   | refine LeO.bind ?_ (fun _ => ?_)
theorem spec_l2Some.mono : ∀ a0 a1 a2 k, LeO (spec_l2Some.f k a0 a1 a2) (spec_l2Some.f (k + 1) a0 a1 a2) := by
 intro a0 a1 a2 k
 have ih0 := spec_l2Some.mono_l k
 unfold spec_l2Some.f
 repeat' first
   | with_reducible first | exact ih0 _ _ _ _ _ _ | exact spec_l2Has.mono _ _ _ | exact LeO.refl _ | exact LeO.none _ | refine LeO.ite ?_ ?_ | refine LeO.bind ?_ (fun _ => ?_)
   | exact ih0 _ _ _ _ _ _
   | exact spec_l2Has.mono _ _ _
   | exact LeO.none _
   | refine LeO.ite ?_ ?_
   | refine LeO.bind ?_ (fun _ => ?_)
set_option maxHeartbeats 8000000 in
set_option maxRecDepth 100000 in
theorem spec_l2Some.calls (k : Nat) (A0 : Option Addr) (c0 : Nat) (l0 : List (S86)) (A1 : Option Addr) (c1 : Nat) (l1 : List ByteArray) (a2 : Bool) (r : List (S86)) (w : World) (hr0 : Kd.C k86 w A0 l0.length l0) (hc0 : l0.length ≤ c0) (hr1 : Kd.C Kd.string w A1 l1.length l1) (hc1 : l1.length ≤ c1) (h : spec_l2Some.f k l0 l1 a2 = some r) :
  Calls Try.prog 77 #[.slice A0 l0.length c0, .slice A1 l1.length c1, .bool a2] w fun e w' => ∃ v0_ : Value, e = .returned (v0_) ∧ Kd.R k86 86 w' w.heap.size (fun _ => True) v0_ r ∧ Below w.heap.size w w' := by
 have hu86 := Try.underlying86
 have HR0 := am_ hr0
 have HC0 := am_ hc0
 clear hr0 hc0
 have HR1 := am_ hr1
 have HC1 := am_ hc1
 clear hr1 hc1
 have HB := am_ (Below.refl w.heap.size w)
 have H : (spec_l2Some.l0 k l1 a2 ([] : List (S86)) l0 (l0.length : Int) 0) = some r := h
 clear h
 have H' := am_ H
 clear H
 go_enter Try.func77, Try.ntmps77
 go_wp2
 go_loopg [7, 12] k (fun kq v7 v12 w' => ∃ (x7_1 : List (S86)) (x12_1 : Int), v12 = .int .i64 x12_1 ∧ Aside0 (spec_l2Some.l0 kq l1 a2 x7_1 l0 (l0.length : Int) x12_1 = some r) ∧ Aside0 (kq ≤ k) ∧ Aside0 (Kd.R k86 86 w' w.heap.size (fun _ => True) v7 x7_1) ∧ Aside0 (Below w.heap.size w w'))
 case atStart => exact ⟨(([] : List (S86))), (0), rs_, H', ⟨Nat.le_refl _⟩, ⟨ni_⟩, ⟨bl_⟩⟩
 case round =>
  clear H'
  try clear c1
  try clear p2
  obtain ⟨x7_1, x12_1, rfl, HA, HK1, HO_7, HB⟩ := hrel
  cases gk with
  | zero => exact absurd HA.out (by simp [spec_l2Some.l0])
  | succ k1 =>
   have H := HA.out
   clear HA
   simp only [spec_l2Some.l0] at H
   by_cases c4 : x12_1 < (l0.length : Int)
   ·rw [if_pos c4] at H
    have c4b0 : decide (x12_1 < (l0.length : Int)) = true := decide_eq_true c4
    clear c4
    by_cases c5 : 0 ≤ x12_1
    ·rw [if_pos c5] at H
     have c5b0 : decide (0 ≤ x12_1) = true := decide_eq_true c5
     clear c5
     by_cases c6 : x12_1 < (l0.length : Int)
     ·rw [if_pos c6] at H
      have c6b0 : decide (x12_1 < (l0.length : Int)) = true := decide_eq_true c6
      clear c6
      replace H := Option.bind_eq_some_iff.mp H
      obtain ⟨t1003, A70, H⟩ := H
      replace H : (if (t1003 == a2) = true then (if x7_1.length < 4398046511104 then (spec_l2Some.l0 k1 l1 a2 (x7_1 ++ [(⟨(rd_T86 l0 x12_1).f0, (rd_T86 l0 x12_1).f1⟩ : S86)]) l0 (l0.length : Int) (wrap64 (x12_1 + 1))) else (none)) else (spec_l2Some.l0 k1 l1 a2 x7_1 l0 (l0.length : Int) (wrap64 (x12_1 + 1)))) = some r := H
      have A7 := am_ A70
      clear A70
      by_cases c8 : (t1003 == a2) = true
      ·rw [if_pos c8] at H
       have c8b0 : (t1003 == a2) = true := c8
       (try (have c8b1 : decide (t1003 = a2) = true := by simpa using c8))
       (try (have c8b2 : (t1003 == a2) = true := by simpa using c8))
       clear c8
       by_cases c9 : x7_1.length < 4398046511104
       ·rw [if_pos c9] at H
        have LMc9 := am_ c9
        clear c9
        obtain ⟨y1004, hy1004⟩ : ∃ y_ : List (S86), y_ = (x7_1 ++ [(⟨(rd_T86 l0 x12_1).f0, (rd_T86 l0 x12_1).f1⟩ : S86)]) := ⟨_, rfl⟩
        replace H : (spec_l2Some.l0 k1 l1 a2 y1004 l0 (l0.length : Int) (wrap64 (x12_1 + 1))) = some r := by first | (rw [hy1004]; with_reducible exact H) | (have H2_ := (Option.bind_some _ _).symm.trans H; rw [hy1004]; with_reducible exact H2_) | (have H2_ := (Option.bind_some _ _).symm.trans H; with_reducible exact H2_) | with_reducible exact H | (rw [hy1004]; exact H) | exact H
        have Ny1004 := am_ hy1004
        clear hy1004
        have H' := am_ H
        clear H
        have p1001 : 0 ≤ (x12_1 : Int) := od_
        have q1001 : x12_1 < (l0.length : Int) := od_
        obtain ⟨ad1001, e1001, hx1001_0, hx1001_1⟩ := at_T86 HR0.out x12_1 p1001 q1001
        cases e1001
        replace hx1001_0 := kp_ HB hx1001_0
        replace hx1001_1 := kp_ HB hx1001_1
        replace p1001 := eq_true p1001
        replace q1001 := eq_true q1001
        go_wp2_with (first | ((with_reducible refine gate_dst (N := 9) rfl ?_); refine box_event ?hg (N := 9) ?hd (cs := #[.string (⟨#[]⟩ : ByteArray), .string (⟨#[]⟩ : ByteArray)]) (t := 86) ?hr ?_; (case hd => rfl); (case hg => rfl); (case hr => first | (go_simp; done) | (go_simp; rfl)); intro gb1002 hg w10 hbox hb; have n0_ := am_ (Kd.R_below (Kd.R_elderB (ro_ HO_7) gb1002 (Nat.le_of_eq hg.symm)) hb); have n1_ := am_ (below_step bl_ hb); have n2_ := am_ (hbox); have n3_ := am_ (gs_ hg : w.heap.size ≤ gb1002); have n4_ := n3_; clear HO_7; clear HB; have HO_7 := n0_; have HB := n1_; have BK1002 := n2_; have GW1002 := n3_; have GE1002 := n4_; clear n0_ n1_ n2_ n3_ n4_; clear hb hbox hg; have hcz11_0 := bc2_0 BK1002; have hcz11_1 := bc2_1 BK1002; have hfz11_0 := bf_ BK1002 0; have hfz11_1 := bf_ BK1002 1) | ((with_reducible refine gate_callee (f := 124) rfl ?_); refine goesL_ (some 19) rfl rfl Try.func124 (by kernel_rfl) rfl #[.slice A1 l1.length c1, .string ((rd_T86 l0 x12_1).f0)] rfl ag_ ?_; (with_reducible refine (spec_l2Has.calls k1 _ _ l1 ((rd_T86 l0 x12_1).f0) t1003 _ ?side1 ?side2 A7.out).mono ?_); (case side1 => exact Kd.C_below HR1.out bg_); (case side2 => exact HC1.out); rintro e w' ⟨rfl, ⟨nd, rfl⟩⟩; refine ⟨_, rfl, ?_⟩) | ((with_reducible refine gate_builtin (b := .append) (xs := #[.tmp 22, .tmp 24]) rfl ?_); at_builtin; refine Kd.R_append k86 (w0 := w) w.heap.size rfl (.tmp 22) (.tmp 24) 30 86 (.agg #[(.string ⟨#[]⟩), (.string ⟨#[]⟩)]) 32 rfl Try.underlying30 info86 rfl (by decide) (by omega) u7 x7_1 (⟨(rd_T86 l0 x12_1).f0, (rd_T86 l0 x12_1).f1⟩ : S86) [.string ((rd_T86 l0 x12_1).f0), .string ((rd_T86 l0 x12_1).f1)] (fun k_ => k_ ≠ gb1002) (fun _ => False) rfl (by first | (go_simp; done) | (go_simp; rfl)) ?aP (fun _ hk => hk.elim) ?aF ?aO ?aB ?aS ?aL ?_; (case aP => exact k86_mkM _ _ _ (⟨(rd_T86 l0 x12_1).f0, (rd_T86 l0 x12_1).f1⟩ : S86)); (case aB => exact bg_); (case aF => exact (fun k_ hk => Kd.freshB (g := gb1002) (o := .cells #[.string ((rd_T86 l0 x12_1).f0), .string ((rd_T86 l0 x12_1).f1)] 86 (0, 0)) (by (with_reducible repeat (first | refine blk_drewN ?_ _ | refine blk_drew ?_ | refine blk_alloc ?_ _)); refine blk_put (cs := #[.string ((rd_T86 l0 x12_1).f0), .string (⟨#[]⟩ : ByteArray)]) ?_ 1 _ rfl; (with_reducible repeat (first | refine blk_drewN ?_ _ | refine blk_drew ?_ | refine blk_alloc ?_ _)); refine blk_put (cs := #[.string (⟨#[]⟩ : ByteArray), .string (⟨#[]⟩ : ByteArray)]) ?_ 0 _ rfl; (with_reducible repeat (first | refine blk_drewN ?_ _ | refine blk_drew ?_ | refine blk_alloc ?_ _)); exact BK1002.out) k_ hk)); (case aO => exact (by (with_reducible repeat (first | apply Kd.R_alloc | apply Kd.R_drewN | apply Kd.R_drew)); exact Kd.R_mono (Kd.R_far (p := ⟨gb1002, 1, none⟩) (Kd.R_far (p := ⟨gb1002, 0, none⟩) (Kd.R_mono HO_7.out (fun k_ hk => (⟨hk, hk.2⟩ : _ ∧ k_ ≠ gb1002))) (fun _ hk => hk.2) (.string ((rd_T86 l0 x12_1).f0))) (fun _ hk => hk.2) (.string ((rd_T86 l0 x12_1).f1))) (fun _ hk => hk.1.2))); (case aS => exact (below_size bg_)); (case aL => have := LMc9.out; omega); intro v1005 w12 ho hb hg hat; rw [← Ny1004.out] at ho; have n0_ := am_ (blk_grown (g := gb1002) (o := .cells #[.string ((rd_T86 l0 x12_1).f0), .string ((rd_T86 l0 x12_1).f1)] 86 (0, 0)) (by (with_reducible repeat (first | refine blk_drewN ?_ _ | refine blk_drew ?_ | refine blk_alloc ?_ _)); refine blk_put (cs := #[.string ((rd_T86 l0 x12_1).f0), .string (⟨#[]⟩ : ByteArray)]) ?_ 1 _ rfl; (with_reducible repeat (first | refine blk_drewN ?_ _ | refine blk_drew ?_ | refine blk_alloc ?_ _)); refine blk_put (cs := #[.string (⟨#[]⟩ : ByteArray), .string (⟨#[]⟩ : ByteArray)]) ?_ 0 _ rfl; (with_reducible repeat (first | refine blk_drewN ?_ _ | refine blk_drew ?_ | refine blk_alloc ?_ _)); exact BK1002.out) hg (Kd.R_away HO_7.out (fun _ hk => hk.2))); have n1_ := am_ (hb); have n2_ := am_ (ho); clear BK1002; clear HB; clear HO_7; have BK1002 := n0_; have HB := n1_; have HO1006 := n2_; clear n0_ n1_ n2_; clear ho hb hg hat))
        go_roundg k1
        case measure => have := HK1.out; omega
        case rel => exact ⟨(y1004), (wrap64 (x12_1 + 1)), rs_, H', ⟨by have := HK1.out; omega⟩, ⟨by (with_reducible repeat (first | apply Kd.R_alloc | apply Kd.R_drewN | apply Kd.R_drew)); exact Kd.R_mono HO1006.out (fun _ hk => trivial)⟩, ⟨bg_⟩⟩
       ·rw [if_neg c9] at H
        exact absurd H (by simp)
      ·rw [if_neg c8] at H
       have c8b0 : (t1003 == a2) = false := by simpa using c8
       (try (have c8b1 : decide (t1003 = a2) = false := by simpa using c8))
       (try (have c8b2 : (t1003 == a2) = false := by simpa using c8))
       (try (have c8b3 : ¬ (t1003 = a2) := by simpa using c8))
       clear c8
       have H' := am_ H
       clear H
       have p1001 : 0 ≤ (x12_1 : Int) := od_
       have q1001 : x12_1 < (l0.length : Int) := od_
       obtain ⟨ad1001, e1001, hx1001_0, hx1001_1⟩ := at_T86 HR0.out x12_1 p1001 q1001
       cases e1001
       replace hx1001_0 := kp_ HB hx1001_0
       replace hx1001_1 := kp_ HB hx1001_1
       replace p1001 := eq_true p1001
       replace q1001 := eq_true q1001
       go_wp2_with (first | ((with_reducible refine gate_dst (N := 9) rfl ?_); refine box_event ?hg (N := 9) ?hd (cs := #[.string (⟨#[]⟩ : ByteArray), .string (⟨#[]⟩ : ByteArray)]) (t := 86) ?hr ?_; (case hd => rfl); (case hg => rfl); (case hr => first | (go_simp; done) | (go_simp; rfl)); intro gb1002 hg w13 hbox hb; have n0_ := am_ (Kd.R_below (Kd.R_elderB (ro_ HO_7) gb1002 (Nat.le_of_eq hg.symm)) hb); have n1_ := am_ (below_step bl_ hb); have n2_ := am_ (hbox); have n3_ := am_ (gs_ hg : w.heap.size ≤ gb1002); have n4_ := n3_; clear HO_7; clear HB; have HO_7 := n0_; have HB := n1_; have BK1002 := n2_; have GW1002 := n3_; have GE1002 := n4_; clear n0_ n1_ n2_ n3_ n4_; clear hb hbox hg; have hcz14_0 := bc2_0 BK1002; have hcz14_1 := bc2_1 BK1002; have hfz14_0 := bf_ BK1002 0; have hfz14_1 := bf_ BK1002 1) | ((with_reducible refine gate_callee (f := 124) rfl ?_); refine goesL_ (some 19) rfl rfl Try.func124 (by kernel_rfl) rfl #[.slice A1 l1.length c1, .string ((rd_T86 l0 x12_1).f0)] rfl ag_ ?_; (with_reducible refine (spec_l2Has.calls k1 _ _ l1 ((rd_T86 l0 x12_1).f0) t1003 _ ?side1 ?side2 A7.out).mono ?_); (case side1 => exact Kd.C_below HR1.out bg_); (case side2 => exact HC1.out); rintro e w' ⟨rfl, ⟨nd, rfl⟩⟩; refine ⟨_, rfl, ?_⟩))
       go_roundg k1
       case measure => have := HK1.out; omega
       case rel => exact ⟨(x7_1), (wrap64 (x12_1 + 1)), rs_, H', ⟨by have := HK1.out; omega⟩, ⟨by (with_reducible repeat (first | apply Kd.R_alloc | apply Kd.R_drewN | apply Kd.R_drew)); exact Kd.R_mono (Kd.R_far (p := ⟨gb1002, 1, none⟩) (Kd.R_far (p := ⟨gb1002, 0, none⟩) (Kd.R_mono HO_7.out (fun k_ hk => (⟨hk, hk.2⟩ : _ ∧ k_ ≠ gb1002))) (fun _ hk => hk.2) (.string ((rd_T86 l0 x12_1).f0))) (fun _ hk => hk.2) (.string ((rd_T86 l0 x12_1).f1))) (fun _ hk => trivial)⟩, ⟨bg_⟩⟩
     ·rw [if_neg c6] at H
      exact absurd H (by simp)
    ·rw [if_neg c5] at H
     exact absurd H (by simp)
   ·rw [if_neg c4] at H
    have c4b0 : decide (x12_1 < (l0.length : Int)) = false := decide_eq_false c4
    clear c4
    obtain rfl := Option.some.inj H
    go_wp2
    go_ret
    exact ⟨_, rf_, by (with_reducible repeat (first | apply Kd.R_alloc | apply Kd.R_drewN | apply Kd.R_drew)); exact HO_7.out, bl_⟩

/-! ### impl_Label: function 125 -/
def impl_Label.l0 (P : S86 → Option Bool) (l0 : List (S86)) : Nat → List (S86) → Int → Option (List (S86))
 | 0, _, _ => none
 | k + 1, x5, x10 => if x10 < (l0.length : Int) then (if 0 ≤ x10 then ((P (⟨(rd_T86 l0 x10).f0, (rd_T86 l0 x10).f1⟩ : S86)).bind fun b => (if b = true then (if x5.length < 4398046511104 then (impl_Label.l0 P l0 k (x5 ++ [(⟨(rd_T86 l0 x10).f0, (rd_T86 l0 x10).f1⟩ : S86)]) (wrap64 (x10 + 1))) else none) else (impl_Label.l0 P l0 k x5 (wrap64 (x10 + 1))))) else none) else some x5
def impl_Label.f (k : Nat) (P : S86 → Option Bool) (l0 : List (S86)) : Option (List (S86)) := impl_Label.l0 P l0 k [] 0
theorem impl_Label.mono_l (P P' : S86 → Option Bool) (hP : ∀ x, LeO (P x) (P' x)) (l0 : List (S86)) : ∀ k x5 x10, LeO (impl_Label.l0 P l0 k x5 x10) (impl_Label.l0 P' l0 (k + 1) x5 x10)
 | 0, _, _ => LeO.none _
 | k + 1, x5, x10 => by
  have ih := impl_Label.mono_l P P' hP l0 k
  unfold impl_Label.l0
  exact LeO.ite (LeO.ite (LeO.bind (hP _) (fun _ => LeO.ite (LeO.ite (ih _ _) (LeO.none _)) (ih _ _))) (LeO.none _)) (LeO.refl _)
theorem impl_Label.mono (P P' : S86 → Option Bool) (hP : ∀ x, LeO (P x) (P' x)) (l0 : List (S86)) (k : Nat) : LeO (impl_Label.f k P l0) (impl_Label.f (k + 1) P' l0) := impl_Label.mono_l P P' hP l0 k _ _
set_option maxHeartbeats 8000000 in
set_option maxRecDepth 100000 in
theorem impl_Label.calls (k : Nat) (P : S86 → Option Bool) (g : Nat) (lb : Array Value) (eg : ∀ args w, (callFunc g args).run Try.prog w = .ok (.enter g args) w) (A0 : Option Addr) (c0 : Nat) (l0 : List (S86)) (r : List (S86)) (w : World) (hr0 : Kd.C k86 w A0 l0.length l0) (hc0 : l0.length ≤ c0)
  (hP : ∀ (W : World) (x : S86) (b : Bool), Below w.heap.size w W → P x = some b → Calls Try.prog g (#[.agg #[.string (x.f0), .string (x.f1)]] ++ lb) W fun e w' => e = .returned (.bool b) ∧ Below W.heap.size W w') (h : impl_Label.f k P l0 = some r) :
  Calls Try.prog 125 #[.slice A0 l0.length c0, .func (.func g) #[] lb] w fun e w' => ∃ v0_ : Value, e = .returned (v0_) ∧ Kd.R k86 86 w' w.heap.size (fun _ => True) v0_ r ∧ Below w.heap.size w w' := by
 have hu := Try.underlying86
 have HR0 := am_ hr0
 have HC0 := am_ hc0
 clear hr0 hc0
 have HB := am_ (Below.refl w.heap.size w)
 have hP' := am_ hP
 clear hP
 have H' := am_ (show impl_Label.l0 P l0 k [] 0 = some r from h)
 clear h
 go_enter Try.func125, Try.ntmps125
 go_wp2
 go_loopg [5, 10] k (fun kq v5 v10 w' => ∃ (x5_1 : List (S86)) (x10_1 : Int), v10 = .int .i64 x10_1 ∧ Aside0 (impl_Label.l0 P l0 kq x5_1 x10_1 = some r) ∧ Aside0 (Kd.R k86 86 w' w.heap.size (fun _ => True) v5 x5_1) ∧ Aside0 (Below w.heap.size w w'))
 case atStart => exact ⟨[], 0, rs_, H', ⟨ni_⟩, ⟨bl_⟩⟩
 case round =>
  clear H'
  obtain ⟨x5_1, x10_1, rfl, HA, HO_5, HB⟩ := hrel
  cases gk with
  | zero => exact absurd HA.out (by simp [impl_Label.l0])
  | succ k1 =>
   have H := HA.out
   clear HA
   simp only [impl_Label.l0] at H
   by_cases c4 : x10_1 < (l0.length : Int)
   ·rw [if_pos c4] at H
    have c4b0 : decide (x10_1 < (l0.length : Int)) = true := decide_eq_true c4
    by_cases c5 : 0 ≤ x10_1
    ·rw [if_pos c5] at H
     have c5b0 : decide (0 ≤ x10_1) = true := decide_eq_true c5
     obtain ⟨b, hb0, H⟩ := Option.bind_eq_some_iff.mp H
     have HP0 := am_ hb0
     clear hb0
     obtain ⟨ad, e_, hx_0, hx_1⟩ := at_T86 HR0.out x10_1 c5 c4
     cases e_
     replace hx_0 := kp_ HB hx_0
     replace hx_1 := kp_ HB hx_1
     have p_ := eq_true c5
     have q_ := eq_true c4
     clear c4 c5
     have HC7 := am_ H
     clear H
     go_upto_region 5 with (first | ((with_reducible refine gate_dst (N := 7) rfl ?_); refine box_event ?hg (N := 7) ?hd (cs := #[.string (⟨#[]⟩ : ByteArray), .string (⟨#[]⟩ : ByteArray)]) (t := 86) ?hr ?_; (case hd => rfl); (case hg => rfl); (case hr => first | (go_simp; done) | (go_simp; rfl)); intro gb hg w8 hbox hb; have n0_ := am_ (Kd.R_below (Kd.R_elderB (ro_ HO_5) gb (Nat.le_of_eq hg.symm)) hb); have n1_ := am_ (below_step bl_ hb); have n2_ := am_ (hbox); have n3_ := am_ (gs_ hg : w.heap.size ≤ gb); clear HO_5; clear HB; have HO_5 := n0_; have HB := n1_; have BK := n2_; have GE := n3_; clear n0_ n1_ n2_ n3_; clear hb hbox hg; have hcz1_0 := bc2_0 BK; have hfz1_0 := bf_ BK 0; have hcz1_1 := bc2_1 BK; have hfz1_1 := bf_ BK 1))
     have n0_ : Aside0 (Kd.R k86 86 (((w8).setCell ⟨gb, 0, none⟩ (.string ((rd_T86 l0 x10_1).f0))).setCell ⟨gb, 1, none⟩ (.string ((rd_T86 l0 x10_1).f1))) w.heap.size (fun k_ => k_ ≠ gb) u5 x5_1) := ⟨Kd.R_mono (Kd.R_far (p := ⟨gb, 1, none⟩) (Kd.R_far (p := ⟨gb, 0, none⟩) (Kd.R_mono HO_5.out (fun k_ hk => (⟨hk, hk.2⟩ : _ ∧ k_ ≠ gb))) (fun _ hk => hk.2) (.string ((rd_T86 l0 x10_1).f0))) (fun _ hk => hk.2) (.string ((rd_T86 l0 x10_1).f1))) (fun _ hk => hk.1.2)⟩
     have n1_ : Aside0 ((((w8).setCell ⟨gb, 0, none⟩ (.string ((rd_T86 l0 x10_1).f0))).setCell ⟨gb, 1, none⟩ (.string ((rd_T86 l0 x10_1).f1))).heap[gb]? = some (.cells #[.string ((rd_T86 l0 x10_1).f0), .string ((rd_T86 l0 x10_1).f1)] 86 (0, 0))) := ⟨by refine blk_put (cs := #[.string ((rd_T86 l0 x10_1).f0), .string (⟨#[]⟩ : ByteArray)]) ?_ 1 _ rfl; refine blk_put (cs := #[.string (⟨#[]⟩ : ByteArray), .string (⟨#[]⟩ : ByteArray)]) ?_ 0 _ rfl; exact BK.out⟩
     have n2_ : Aside0 (Below w.heap.size w (((w8).setCell ⟨gb, 0, none⟩ (.string ((rd_T86 l0 x10_1).f0))).setCell ⟨gb, 1, none⟩ (.string ((rd_T86 l0 x10_1).f1)))) := ⟨bg_⟩
     clear HO_5 BK HB
     generalize ((w8).setCell ⟨gb, 0, none⟩ (.string ((rd_T86 l0 x10_1).f0))).setCell ⟨gb, 1, none⟩ (.string ((rd_T86 l0 x10_1).f1)) = w9 at n0_ n1_ n2_ ⊢
     have HO_5 := n0_
     have BK := n1_
     have HB := n2_
     clear n0_ n1_ n2_
     have hcz2_0 := bc2_0 BK; have hfz2_0 := bf_ BK 0; have hcz2_1 := bc2_1 BK; have hfz2_1 := bf_ BK 1
     cases b with
     | true =>
      have H := HC7.out
      rw [if_pos rfl] at H
      by_cases c13 : x5_1.length < 4398046511104
      ·rw [if_pos c13] at H
       have LM := am_ c13
       clear c13
       obtain ⟨y, hy⟩ : ∃ y_ : List (S86), y_ = x5_1 ++ [(⟨(rd_T86 l0 x10_1).f0, (rd_T86 l0 x10_1).f1⟩ : S86)] := ⟨_, rfl⟩
       rw [← hy] at H
       have Ny := am_ hy
       clear hy
       have H' := am_ H
       clear H
       go_wp2_with (first | (with_reducible refine Calls.mono (hP'.out w9 (⟨(rd_T86 l0 x10_1).f0, (rd_T86 l0 x10_1).f1⟩ : S86) true HB.out HP0.out) ?_; rintro e w10 ⟨rfl, hb⟩; have n0_ := am_ (Kd.R_below HO_5.out hb); have n1_ := am_ (blk_below BK.out hb); have n2_ := am_ (below_step HB.out hb); clear HO_5 BK HB; have HO_5 := n0_; have BK := n1_; have HB := n2_; clear n0_ n1_ n2_ hb; have hcz3_0 := bc2_0 BK; have hfz3_0 := bf_ BK 0; have hcz3_1 := bc2_1 BK; have hfz3_1 := bf_ BK 1) | ((with_reducible refine gate_builtin (b := .append) (xs := #[.tmp 17, .tmp 19]) rfl ?_); at_builtin; refine Kd.R_append k86 (w0 := w) w.heap.size rfl (.tmp 17) (.tmp 19) 30 86 (.agg #[(.string ⟨#[]⟩), (.string ⟨#[]⟩)]) 32 rfl Try.underlying30 info86 rfl (by decide) (by omega) u5 x5_1 (⟨(rd_T86 l0 x10_1).f0, (rd_T86 l0 x10_1).f1⟩ : S86) [.string ((rd_T86 l0 x10_1).f0), .string ((rd_T86 l0 x10_1).f1)] (fun k_ => k_ ≠ gb) (fun _ => False) rfl rfl ?aP (fun _ hk => hk.elim) ?aF ?aO ?aB ?aS ?aL ?_; (case aP => exact k86_mkM _ _ _ (⟨(rd_T86 l0 x10_1).f0, (rd_T86 l0 x10_1).f1⟩ : S86)); (case aB => exact bg_); (case aF => exact (fun k_ hk => Kd.freshB (g := gb) (o := .cells #[.string ((rd_T86 l0 x10_1).f0), .string ((rd_T86 l0 x10_1).f1)] 86 (0, 0)) (vk_ BK) k_ hk)); (case aO => exact (ro_ HO_5)); (case aS => exact (below_size bg_)); (case aL => have := LM.out; omega); intro v20 w12 ho hb hg hat; rw [← Ny.out] at ho; have n1_ := am_ (hb); have n2_ := am_ (ho); clear HB; clear HO_5; have HB := n1_; have HO_5 := n2_; clear n1_ n2_; clear ho hb hg hat))
       go_roundg k1
       case measure => omega
       case rel => exact ⟨y, (wrap64 (x10_1 + 1)), rs_, H', ⟨by (with_reducible repeat (first | apply Kd.R_alloc | apply Kd.R_drewN | apply Kd.R_drew)); exact Kd.R_mono HO_5.out (fun _ hk => trivial)⟩, ⟨bg_⟩⟩
      ·rw [if_neg c13] at H
       exact absurd H (by simp)
     | false =>
      have H' : Aside0 (impl_Label.l0 P l0 k1 x5_1 (wrap64 (x10_1 + 1)) = some r) := ⟨by have H := HC7.out; rw [if_neg (show ¬ (false = true) by decide)] at H; exact H⟩
      go_wp2_with (first | (with_reducible refine Calls.mono (hP'.out w9 (⟨(rd_T86 l0 x10_1).f0, (rd_T86 l0 x10_1).f1⟩ : S86) false HB.out HP0.out) ?_; rintro e w10 ⟨rfl, hb⟩; have n0_ := am_ (Kd.R_below HO_5.out hb); have n2_ := am_ (below_step HB.out hb); clear HO_5 BK HB; have HO_5 := n0_; have HB := n2_; clear n0_ n2_ hb))
      go_roundg k1
      case measure => omega
      case rel => exact ⟨x5_1, (wrap64 (x10_1 + 1)), rs_, H', ⟨by (with_reducible repeat (first | apply Kd.R_alloc | apply Kd.R_drewN | apply Kd.R_drew)); exact Kd.R_mono HO_5.out (fun _ hk => trivial)⟩, ⟨bl_⟩⟩
    ·rw [if_neg c5] at H
     exact absurd H (by simp)
   ·rw [if_neg c4] at H
    have c4b0 : decide (x10_1 < (l0.length : Int)) = false := decide_eq_false c4
    clear c4
    obtain rfl := Option.some.inj H
    go_wp2
    go_ret
    exact ⟨_, rf_, HO_5.out, bl_⟩

/-! ### slices_Index_string_string: function 154 -/
def slices_Index_string_string.l0 : Nat → List ByteArray → ByteArray → Int → Int → Option (Int)
 | 0, _, _, _, _ => none
 | k + 1, x0, x1, x7, x8 => if x8 < x7 then (if 0 ≤ x8 then (if x8 < (x0.length : Int) then (if x1.toList = (rdOf ByteArray.empty x0 x8).toList then (some x8) else (slices_Index_string_string.l0 k x0 x1 x7 (wrap64 (x8 + 1)))) else (none)) else (none)) else (some (-1))
def slices_Index_string_string.f (k : Nat) (l0 : List ByteArray) (a1 : ByteArray) : Option (Int) := slices_Index_string_string.l0 k l0 a1 (l0.length : Int) 0
theorem slices_Index_string_string.mono_l : ∀ k, (∀ y0 y1 y2 y3, LeO (slices_Index_string_string.l0 k y0 y1 y2 y3) (slices_Index_string_string.l0 (k + 1) y0 y1 y2 y3))
 | 0 => fun _ _ _ _ r h => by simp [slices_Index_string_string.l0] at h
 | k + 1 => by
  have ih0 := slices_Index_string_string.mono_l k
  ·intro y0 y1 y2 y3
   unfold slices_Index_string_string.l0
   repeat' first
   | with_reducible first | exact ih0 _ _ _ _ | exact LeO.refl _ | exact LeO.none _ | refine LeO.ite ?_ ?_ | refine LeO.bind ?_ (fun _ => ?_)
   | exact ih0 _ _ _ _
   | exact LeO.none _
   | refine LeO.ite ?_ ?_
   | refine LeO.bind ?_ (fun _ => ?_)
theorem slices_Index_string_string.mono : ∀ a0 a1 k, LeO (slices_Index_string_string.f k a0 a1) (slices_Index_string_string.f (k + 1) a0 a1) := by
 intro a0 a1 k
 have ih0 := slices_Index_string_string.mono_l k
 unfold slices_Index_string_string.f
 repeat' first
   | with_reducible first | exact ih0 _ _ _ _ | exact LeO.refl _ | exact LeO.none _ | refine LeO.ite ?_ ?_ | refine LeO.bind ?_ (fun _ => ?_)
   | exact ih0 _ _ _ _
   | exact LeO.none _
   | refine LeO.ite ?_ ?_
   | refine LeO.bind ?_ (fun _ => ?_)
set_option maxHeartbeats 8000000 in
set_option maxRecDepth 100000 in
theorem slices_Index_string_string.calls (k : Nat) (A0 : Option Addr) (c0 : Nat) (l0 : List ByteArray) (a1 : ByteArray) (r : Int) (w : World) (hr0 : Kd.C Kd.string w A0 l0.length l0) (hc0 : l0.length ≤ c0) (h : slices_Index_string_string.f k l0 a1 = some r) :
  Calls Try.prog 154 #[.slice A0 l0.length c0, .string a1] w fun e w' => e = .returned (.int .i64 r) ∧ Drawn0 w w' := by
 have HR0 := am_ hr0
 have HC0 := am_ hc0
 clear hr0 hc0
 have H : (slices_Index_string_string.l0 k l0 a1 (l0.length : Int) 0) = some r := h
 clear h
 have H' := am_ H
 clear H
 go_enter Try.func154, Try.ntmps154
 go_wp2
 go_loopg [8] k (fun kq v8 w' => ∃ (x8_1 : Int), v8 = .int .i64 x8_1 ∧ Aside0 (slices_Index_string_string.l0 kq l0 a1 (l0.length : Int) x8_1 = some r) ∧ Aside0 (kq ≤ k) ∧ Drawn0 w w')
 case atStart => exact ⟨(0), rs_, H', ⟨Nat.le_refl _⟩, by repeat (first | exact Drawn0.refl _ | apply Drawn0.step)⟩
 case round =>
  clear H'
  try clear c1
  try clear p2
  obtain ⟨x8_1, rfl, HA, HK1, ⟨m1, rfl⟩⟩ := hrel
  cases gk with
  | zero => exact absurd HA.out (by simp [slices_Index_string_string.l0])
  | succ k1 =>
   have H := HA.out
   clear HA
   simp only [slices_Index_string_string.l0] at H
   by_cases c3 : x8_1 < (l0.length : Int)
   ·rw [if_pos c3] at H
    have c3b0 : decide (x8_1 < (l0.length : Int)) = true := decide_eq_true c3
    clear c3
    by_cases c4 : 0 ≤ x8_1
    ·rw [if_pos c4] at H
     have c4b0 : decide (0 ≤ x8_1) = true := decide_eq_true c4
     clear c4
     by_cases c5 : x8_1 < (l0.length : Int)
     ·rw [if_pos c5] at H
      have c5b0 : decide (x8_1 < (l0.length : Int)) = true := decide_eq_true c5
      clear c5
      by_cases c6 : a1.toList = (rdOf ByteArray.empty l0 x8_1).toList
      ·rw [if_pos c6] at H
       have c6b0 : (a1.toList == (rdOf ByteArray.empty l0 x8_1).toList) = true := beq_iff_eq.mpr c6
       have c6b1 : (a1.toList != (rdOf ByteArray.empty l0 x8_1).toList) = false := bne_eq_false_iff_eq.mpr c6
       clear c6
       obtain rfl := Option.some.inj H
       have p1001 : 0 ≤ (x8_1 : Int) := od_
       have q1001 : x8_1 < (l0.length : Int) := od_
       obtain ⟨ad1001, e1001, hx1001_0⟩ := Kd.at_string HR0.out x8_1 p1001 q1001
       cases e1001
       replace p1001 := eq_true p1001
       replace q1001 := eq_true q1001
       go_wp2
       go_ret
       exact ⟨by first | rfl | (simp; done) | (simp [*]; done), by repeat (first | exact Drawn0.refl _ | apply Drawn0.step)⟩
      ·rw [if_neg c6] at H
       have c6b0 : (a1.toList == (rdOf ByteArray.empty l0 x8_1).toList) = false := beq_eq_false_iff_ne.mpr c6
       have c6b1 : (a1.toList != (rdOf ByteArray.empty l0 x8_1).toList) = true := bne_iff_ne.mpr c6
       have H' := am_ H
       clear H
       have p1001 : 0 ≤ (x8_1 : Int) := od_
       have q1001 : x8_1 < (l0.length : Int) := od_
       obtain ⟨ad1001, e1001, hx1001_0⟩ := Kd.at_string HR0.out x8_1 p1001 q1001
       cases e1001
       replace p1001 := eq_true p1001
       replace q1001 := eq_true q1001
       go_wp2
       go_roundg k1
       case measure => have := HK1.out; omega
       case rel => exact ⟨(wrap64 (x8_1 + 1)), rs_, H', ⟨by have := HK1.out; omega⟩, by repeat (first | exact Drawn0.refl _ | apply Drawn0.step)⟩
     ·rw [if_neg c5] at H
      exact absurd H (by simp)
    ·rw [if_neg c4] at H
     exact absurd H (by simp)
   ·rw [if_neg c3] at H
    have c3b0 : decide (x8_1 < (l0.length : Int)) = false := decide_eq_false c3
    clear c3
    obtain rfl := Option.some.inj H
    go_wp2
    go_ret
    exact ⟨by first | rfl | (simp; done) | (simp [*]; done), by repeat (first | exact Drawn0.refl _ | apply Drawn0.step)⟩

/-! ### slices_Contains_string_string: function 127 -/
def slices_Contains_string_string.f (k : Nat) (l0 : List ByteArray) (a1 : ByteArray) : Option (Bool) := (slices_Index_string_string.f k l0 a1).bind fun t1001 => (some (decide (t1001 ≥ 0)))
theorem slices_Contains_string_string.mono : ∀ a0 a1 k, LeO (slices_Contains_string_string.f k a0 a1) (slices_Contains_string_string.f (k + 1) a0 a1) := by
 intro a0 a1 k
 unfold slices_Contains_string_string.f
 repeat' first
   | with_reducible first | exact slices_Index_string_string.mono _ _ _ | exact LeO.refl _ | exact LeO.none _ | refine LeO.ite ?_ ?_ | refine LeO.bind ?_ (fun _ => ?_)
   | exact slices_Index_string_string.mono _ _ _
   | exact LeO.none _
   | refine LeO.ite ?_ ?_
   | refine LeO.bind ?_ (fun _ => ?_)
set_option maxHeartbeats 8000000 in
set_option maxRecDepth 100000 in
theorem slices_Contains_string_string.calls (k : Nat) (A0 : Option Addr) (c0 : Nat) (l0 : List ByteArray) (a1 : ByteArray) (r : Bool) (w : World) (hr0 : Kd.C Kd.string w A0 l0.length l0) (hc0 : l0.length ≤ c0) (h : slices_Contains_string_string.f k l0 a1 = some r) :
  Calls Try.prog 127 #[.slice A0 l0.length c0, .string a1] w fun e w' => e = .returned (.bool r) ∧ Drawn0 w w' := by
 have HR0 := am_ hr0
 have HC0 := am_ hc0
 clear hr0 hc0
 have H : ((slices_Index_string_string.f k l0 a1).bind fun t1001 => (some (decide (t1001 ≥ 0)))) = some r := h
 clear h
 replace H := Option.bind_eq_some_iff.mp H
 obtain ⟨t1001, A30, H⟩ := H
 replace H : (some (decide (t1001 ≥ 0))) = some r := H
 have A3 := am_ A30
 clear A30
 obtain rfl := Option.some.inj H
 go_enter Try.func127, Try.ntmps127
 go_wp2_with (first | ((with_reducible refine gate_callee (f := 154) rfl ?_); refine goesL_ (some 7) rfl rfl Try.func154 (by kernel_rfl) rfl #[.slice A0 l0.length c0, .string a1] rfl ag_ ?_; (with_reducible refine (slices_Index_string_string.calls k _ _ l0 a1 t1001 _ ?side1 ?side2 A3.out).mono ?_); (case side1 => repeat (first | exact HR0.out | (with_reducible refine Kd.C_alloc ?_ _) | (with_reducible refine Kd.C_drewN ?_ _) | (with_reducible refine Kd.C_drew ?_))); (case side2 => exact HC0.out); rintro e w' ⟨rfl, ⟨nd, rfl⟩⟩; refine ⟨_, rfl, ?_⟩))
 go_ret
 exact ⟨by first | rfl | (simp; done) | (simp [*]; done), by repeat (first | exact Drawn0.refl _ | apply Drawn0.step)⟩

end Go.Proofs.Ythgeohdpjedhnaa.Pr
