/- Functions of the given program as plain Lean functions, and that the machine's calls come to them; written by a program of this session; no condition but those that each theorem states. -/
import Derived.Test.YthgeohdpjedhnaaPrx0
import Derived.Test.YthgeohdpjedhnaaPrxg8672bn1
import Derived.Test.YthgeohdpjedhnaaPrxg04c80n1
import Derived.Test.YthgeohdpjedhnaaPrxg0dd73n1
import Derived.Test.YthgeohdpjedhnaaPrxg5570bn1
import Derived.Test.YthgeohdpjedhnaaPrxgcd579n1
import Derived.Test.YthgeohdpjedhnaaPrxg030f5n1
import Derived.Test.YthgeohdpjedhnaaPrxg51c58n1
namespace Go.Proofs.Ythgeohdpjedhnaa.Pr
open Go.RowKit Go.Proofs.YthgeohdpjedhnaaW.PrintWords Go.Proofs.YthgeohdpjedhnaaW.PrintLast Go.Proofs.YthgeohdpjedhnaaW.PrintMore
attribute [local go_sem] max2_int min2_int max_two min_two max_three min_three max_four min_four   -- for this text's walks alone
set_option linter.unusedVariables false
set_option linter.unusedSimpArgs false

/-! ### spec_DropLabels: function 29 -/
def spec_DropLabels.f (k : Nat) (l0 : List (S86)) (l1 : List ByteArray) : Option ((List (S86))) := (spec_GoodLabels.f k l0).bind fun t1001 => (if t1001 = true then (if (l1.length : Int) > 1000 then (some ([] : List (S86))) else ((spec_l2Some.f k l0 l1 false).bind fun t1002 => (some t1002))) else (some ([] : List (S86))))
theorem spec_DropLabels.mono : ∀ a0 a1 k, LeO (spec_DropLabels.f k a0 a1) (spec_DropLabels.f (k + 1) a0 a1) := by
 intro a0 a1 k
 unfold spec_DropLabels.f
 repeat' first
   | with_reducible first | exact spec_GoodLabels.mono _ _ | exact spec_l2Some.mono _ _ _ _ | exact LeO.refl _ | exact LeO.none _ | refine LeO.ite ?_ ?_ | refine LeO.bind ?_ (fun _ => ?_)
   | exact spec_GoodLabels.mono _ _
   | exact spec_l2Some.mono _ _ _ _
   | exact LeO.none _
   | refine LeO.ite ?_ ?_
   | refine LeO.bind ?_ (fun _ => ?_)
set_option maxHeartbeats 8000000 in
set_option maxRecDepth 100000 in
theorem spec_DropLabels.calls (k : Nat) (A0 : Option Addr) (c0 : Nat) (l0 : List (S86)) (A1 : Option Addr) (c1 : Nat) (l1 : List ByteArray) (r : List (S86)) (w : World) (hr0 : Kd.C k86 w A0 l0.length l0) (hc0 : l0.length ≤ c0) (hr1 : Kd.C Kd.string w A1 l1.length l1) (hc1 : l1.length ≤ c1) (h : spec_DropLabels.f k l0 l1 = some r) :
  Calls Try.prog 29 #[.slice A0 l0.length c0, .slice A1 l1.length c1] w fun e w' => ∃ v0_ : Value, e = .returned (v0_) ∧ Kd.R k86 86 w' w.heap.size (fun _ => True) v0_ r ∧ Below w.heap.size w w' := by
 have HR0 := am_ hr0
 have HC0 := am_ hc0
 clear hr0 hc0
 have HR1 := am_ hr1
 have HC1 := am_ hc1
 clear hr1 hc1
 have HB := am_ (Below.refl w.heap.size w)
 have H : ((spec_GoodLabels.f k l0).bind fun t1001 => (if t1001 = true then (if (l1.length : Int) > 1000 then (some ([] : List (S86))) else ((spec_l2Some.f k l0 l1 false).bind fun t1002 => (some t1002))) else (some ([] : List (S86))))) = some r := h
 clear h
 replace H := Option.bind_eq_some_iff.mp H
 obtain ⟨t1001, A30, H⟩ := H
 replace H : (if t1001 = true then (if (l1.length : Int) > 1000 then (some ([] : List (S86))) else ((spec_l2Some.f k l0 l1 false).bind fun t1002 => (some t1002))) else (some ([] : List (S86)))) = some r := H
 have A3 := am_ A30
 clear A30
 by_cases c4 : t1001 = true
 ·subst c4
  have H1 : (if (l1.length : Int) > 1000 then (some ([] : List (S86))) else ((spec_l2Some.f k l0 l1 false).bind fun t1002 => (some t1002))) = some r := by rw [if_pos rfl] at H; exact H
  clear H
  have H := H1
  clear H1
  by_cases c5 : (l1.length : Int) > 1000
  ·rw [if_pos c5] at H
   have c5b0 : decide (1000 < (l1.length : Int)) = true := decide_eq_true c5
   have c5b1 : decide (1000 < l1.length) = true := decide_eq_true (by omega)
   clear c5
   obtain rfl := Option.some.inj H
   go_enter Try.func29, Try.ntmps29
   go_wp2_with (first | ((with_reducible refine gate_callee (f := 64) rfl ?_); refine goesL_ (some 6) rfl rfl Try.func64 (by kernel_rfl) rfl #[.slice A0 l0.length c0] rfl ag_ ?_; (with_reducible refine (spec_GoodLabels.calls k _ _ l0 true _ ?side1 ?side2 A3.out).mono ?_); (case side1 => repeat (first | exact HR0.out | (with_reducible refine Kd.C_alloc ?_ _) | (with_reducible refine Kd.C_drewN ?_ _) | (with_reducible refine Kd.C_drew ?_))); (case side2 => exact HC0.out); rintro e w6 ⟨rfl, hb⟩; refine ⟨_, rfl, ?_⟩; have n0_ := am_ (below_step bl_ hb); clear HB; have HB := n0_; clear n0_; (try clear hb); (try clear hb2); (try clear hk); (try clear hi)))
   go_ret
   exact ⟨_, rf_, ni_, bl_⟩
  ·rw [if_neg c5] at H
   have c5b0 : decide (1000 < (l1.length : Int)) = false := decide_eq_false c5
   have c5b1 : decide (1000 < l1.length) = false := decide_eq_false (by omega)
   clear c5
   replace H := Option.bind_eq_some_iff.mp H
   obtain ⟨t1002, A70, H⟩ := H
   replace H : (some t1002) = some r := H
   have A7 := am_ A70
   clear A70
   obtain rfl := Option.some.inj H
   go_enter Try.func29, Try.ntmps29
   go_wp2_with (first | ((with_reducible refine gate_callee (f := 64) rfl ?_); refine goesL_ (some 6) rfl rfl Try.func64 (by kernel_rfl) rfl #[.slice A0 l0.length c0] rfl ag_ ?_; (with_reducible refine (spec_GoodLabels.calls k _ _ l0 true _ ?side1 ?side2 A3.out).mono ?_); (case side1 => repeat (first | exact HR0.out | (with_reducible refine Kd.C_alloc ?_ _) | (with_reducible refine Kd.C_drewN ?_ _) | (with_reducible refine Kd.C_drew ?_))); (case side2 => exact HC0.out); rintro e w8 ⟨rfl, hb⟩; refine ⟨_, rfl, ?_⟩; have n0_ := am_ (below_step bl_ hb); clear HB; have HB := n0_; clear n0_; (try clear hb); (try clear hb2); (try clear hk); (try clear hi)) | ((with_reducible refine gate_callee (f := 77) rfl ?_); refine goesL_ (some 15) rfl rfl Try.func77 (by kernel_rfl) rfl #[.slice A0 l0.length c0, .slice A1 l1.length c1, .bool false] rfl ag_ ?_; (with_reducible refine (spec_l2Some.calls k _ _ l0 _ _ l1 false t1002 _ ?side1 ?side2 ?side3 ?side4 A7.out).mono ?_); (case side1 => exact cc_ (Kd.C_below HR0.out HB.out)); (case side2 => exact HC0.out); (case side3 => exact cc_ (Kd.C_below HR1.out HB.out)); (case side4 => exact HC1.out); rintro e w9 ⟨v1003, rfl, ho0, hb⟩; refine ⟨_, rfl, ?_⟩; have n0_ := am_ (Kd.R_lower ho0 (below_size bl_)); have n1_ := am_ (below_step bl_ hb); clear HB; have HO1004 := n0_; have HB := n1_; clear n0_ n1_; (try clear hb); (try clear hb2); (try clear hk); (try clear hi); (try clear ho0)))
   go_ret
   exact ⟨_, rf_, by (with_reducible repeat (first | apply Kd.R_alloc | apply Kd.R_drewN | apply Kd.R_drew)); exact HO1004.out, bl_⟩
 ·replace c4 := Bool.eq_false_iff.mpr c4
  subst c4
  have H1 : (some ([] : List (S86))) = some r := by rw [if_neg (show ¬ (false = true) by decide)] at H; exact H
  clear H
  have H := H1
  clear H1
  obtain rfl := Option.some.inj H
  go_enter Try.func29, Try.ntmps29
  go_wp2_with (first | ((with_reducible refine gate_callee (f := 64) rfl ?_); refine goesL_ (some 6) rfl rfl Try.func64 (by kernel_rfl) rfl #[.slice A0 l0.length c0] rfl ag_ ?_; (with_reducible refine (spec_GoodLabels.calls k _ _ l0 false _ ?side1 ?side2 A3.out).mono ?_); (case side1 => repeat (first | exact HR0.out | (with_reducible refine Kd.C_alloc ?_ _) | (with_reducible refine Kd.C_drewN ?_ _) | (with_reducible refine Kd.C_drew ?_))); (case side2 => exact HC0.out); rintro e w10 ⟨rfl, hb⟩; refine ⟨_, rfl, ?_⟩; have n0_ := am_ (below_step bl_ hb); clear HB; have HB := n0_; clear n0_; (try clear hb); (try clear hb2); (try clear hk); (try clear hi)))
  go_ret
  exact ⟨_, rf_, ni_, bl_⟩

/-! ### impl_drop: function 78 -/
set_option maxHeartbeats 4000000 in
theorem impl_drop_1.calls (k : Nat) (x : S86) (A1 : Option Addr) (c1 : Nat) (l1 : List ByteArray) (gn : Nat) (b : Bool) (w : World) (hcell : w.cell? ⟨gn, 0, none⟩ = some (.slice A1 l1.length c1)) (hr1 : Kd.C Kd.string w A1 l1.length l1) (hc1 : l1.length ≤ c1) (h : slices_Contains_string_string.f k l1 x.f0 = some b) :
  Calls Try.prog 126 #[.agg #[.string (x.f0), .string (x.f1)], .pointer (some ⟨gn, 0, none⟩)] w fun e w' => e = .returned (.bool (!b)) ∧ Below w.heap.size w w' := by
 have hu := Try.underlying86
 have HC1 := am_ hr1
 clear hr1
 have HB := am_ (Below.refl w.heap.size w)
 have HX := am_ hcell
 clear hcell
 go_enter Try.func126, Try.ntmps126
 go_wp2_with (first | ((with_reducible refine gate_dst (N := 2) rfl ?_); refine box_event ?hg (N := 2) ?hd (cs := #[.string (x.f0), .string (x.f1)]) (t := 86) ?hr ?_; (case hd => rfl); (case hg => rfl); (case hr => first | (go_simp; done) | (go_simp; rfl)); intro gb hg w8 hbox hb; have n1_ := am_ (below_step bl_ hb); have BK := am_ hbox; clear HB; have HB := n1_; clear n1_ hb hbox hg; have hcx := kp_ HB HX.out; have hcz1_0 := bc2_0 BK; have hcz1_1 := bc2_1 BK; have hfz1_0 := bf_ BK 0; have hfz1_1 := bf_ BK 1) | (go_at_call 127; refine (slices_Contains_string_string.calls k A1 c1 l1 x.f0 b _ (Kd.C_below HC1.out bl_) hc1 h).mono ?_; rintro e w' ⟨rfl, ⟨nd, rfl⟩⟩))
 go_ret
 exact ⟨rf_, bl_⟩
def impl_drop.f (k : Nat) (l0 : List (S86)) (l1 : List ByteArray) : Option (List (S86)) := impl_Label.f k (fun x => (slices_Contains_string_string.f k l1 x.f0).bind fun b => some (!b)) l0
theorem impl_drop.mono : ∀ a0 a1 k, LeO (impl_drop.f k a0 a1) (impl_drop.f (k + 1) a0 a1) := by
 intro a0 a1 k
 exact impl_Label.mono _ _ (fun x => LeO.bind (slices_Contains_string_string.mono _ _ _) (fun _ => LeO.refl _)) a0 k
set_option maxHeartbeats 4000000 in
theorem impl_drop.calls (k : Nat) (A0 : Option Addr) (c0 : Nat) (l0 : List (S86)) (A1 : Option Addr) (c1 : Nat) (l1 : List ByteArray) (r : List (S86)) (w : World) (hr0 : Kd.C k86 w A0 l0.length l0) (hc0 : l0.length ≤ c0) (hr1 : Kd.C Kd.string w A1 l1.length l1) (hc1 : l1.length ≤ c1) (h : impl_drop.f k l0 l1 = some r) :
  Calls Try.prog 78 #[.slice A0 l0.length c0, .slice A1 l1.length c1] w fun e w' => ∃ v0_ : Value, e = .returned (v0_) ∧ Kd.R k86 86 w' w.heap.size (fun _ => True) v0_ r ∧ Below w.heap.size w w' := by
 have HR0 := am_ hr0
 have HR1 := am_ hr1
 clear hr0 hr1
 have HB := am_ (Below.refl w.heap.size w)
 go_enter Try.func78, Try.ntmps78
 go_wp2_with (first | ((with_reducible refine gate_dst (N := 3) rfl ?_); refine box_event ?hg (N := 3) ?hd (cs := #[.slice A1 l1.length c1]) (t := 22) ?hr ?_; (case hd => rfl); (case hg => rfl); (case hr => first | (go_simp; done) | (go_simp; rfl)); intro gb hg w8 hbox hb; have n1_ := am_ (below_step bl_ hb); have BK := am_ hbox; clear HB; have HB := n1_; clear n1_ hb hbox hg) | (go_at_call 125; refine (impl_Label.calls k _ 126 #[.pointer (some ⟨gb, 0, none⟩)] (fun args w => enters_ Try.func126 (by kernel_rfl) rfl args w) A0 c0 l0 r w8 (Kd.C_below HR0.out HB.out) hc0 ?hP h).mono ?_; (case hP => intro W x b hW hx; obtain ⟨b0, hx2, hb0⟩ := Option.bind_eq_some_iff.mp hx; replace hx := hx2; obtain rfl := Option.some.inj hb0; exact impl_drop_1.calls k x A1 c1 l1 gb b0 W (kp_ ⟨hW⟩ (bc1_0 BK)) (Kd.C_below (Kd.C_below HR1.out HB.out) hW) hc1 hx); rintro e w9 ⟨v0, rfl, ho, hb⟩; have n0_ := am_ (Kd.R_lower ho (below_size HB.out)); have n1_ := am_ (below_step HB.out hb); clear HB; have HO := n0_; have HB := n1_; clear n0_ n1_ hb ho))
 go_ret
 exact ⟨_, rf_, HO.out, bl_⟩

/-! ### impl_DropLabels: function 31 -/
def impl_DropLabels.f (k : Nat) (l0 : List (S86)) (l1 : List ByteArray) : Option ((List (S86))) := (impl_GoodLabels.f k l0).bind fun t1001 => (if t1001 = true then (if (l1.length : Int) > 1000 then (some ([] : List (S86))) else ((impl_drop.f k l0 l1).bind fun t1002 => (some t1002))) else (some ([] : List (S86))))
theorem impl_DropLabels.mono : ∀ a0 a1 k, LeO (impl_DropLabels.f k a0 a1) (impl_DropLabels.f (k + 1) a0 a1) := by
 intro a0 a1 k
 unfold impl_DropLabels.f
 repeat' first
   | with_reducible first | exact impl_GoodLabels.mono _ _ | exact impl_drop.mono _ _ _ | exact LeO.refl _ | exact LeO.none _ | refine LeO.ite ?_ ?_ | refine LeO.bind ?_ (fun _ => ?_)
   | exact impl_GoodLabels.mono _ _
   | exact impl_drop.mono _ _ _
   | exact LeO.none _
   | refine LeO.ite ?_ ?_
   | refine LeO.bind ?_ (fun _ => ?_)
set_option maxHeartbeats 8000000 in
set_option maxRecDepth 100000 in
theorem impl_DropLabels.calls (k : Nat) (A0 : Option Addr) (c0 : Nat) (l0 : List (S86)) (A1 : Option Addr) (c1 : Nat) (l1 : List ByteArray) (r : List (S86)) (w : World) (hr0 : Kd.C k86 w A0 l0.length l0) (hc0 : l0.length ≤ c0) (hr1 : Kd.C Kd.string w A1 l1.length l1) (hc1 : l1.length ≤ c1) (h : impl_DropLabels.f k l0 l1 = some r) :
  Calls Try.prog 31 #[.slice A0 l0.length c0, .slice A1 l1.length c1] w fun e w' => ∃ v0_ : Value, e = .returned (v0_) ∧ Kd.R k86 86 w' w.heap.size (fun _ => True) v0_ r ∧ Below w.heap.size w w' := by
 have HR0 := am_ hr0
 have HC0 := am_ hc0
 clear hr0 hc0
 have HR1 := am_ hr1
 have HC1 := am_ hc1
 clear hr1 hc1
 have HB := am_ (Below.refl w.heap.size w)
 have H : ((impl_GoodLabels.f k l0).bind fun t1001 => (if t1001 = true then (if (l1.length : Int) > 1000 then (some ([] : List (S86))) else ((impl_drop.f k l0 l1).bind fun t1002 => (some t1002))) else (some ([] : List (S86))))) = some r := h
 clear h
 replace H := Option.bind_eq_some_iff.mp H
 obtain ⟨t1001, A30, H⟩ := H
 replace H : (if t1001 = true then (if (l1.length : Int) > 1000 then (some ([] : List (S86))) else ((impl_drop.f k l0 l1).bind fun t1002 => (some t1002))) else (some ([] : List (S86)))) = some r := H
 have A3 := am_ A30
 clear A30
 by_cases c4 : t1001 = true
 ·subst c4
  have H1 : (if (l1.length : Int) > 1000 then (some ([] : List (S86))) else ((impl_drop.f k l0 l1).bind fun t1002 => (some t1002))) = some r := by rw [if_pos rfl] at H; exact H
  clear H
  have H := H1
  clear H1
  by_cases c5 : (l1.length : Int) > 1000
  ·rw [if_pos c5] at H
   have c5b0 : decide (1000 < (l1.length : Int)) = true := decide_eq_true c5
   have c5b1 : decide (1000 < l1.length) = true := decide_eq_true (by omega)
   clear c5
   obtain rfl := Option.some.inj H
   go_enter Try.func31, Try.ntmps31
   go_wp2_with (first | ((with_reducible refine gate_callee (f := 69) rfl ?_); refine goesL_ (some 6) rfl rfl Try.func69 (by kernel_rfl) rfl #[.slice A0 l0.length c0] rfl ag_ ?_; (with_reducible refine (impl_GoodLabels.calls k _ _ l0 true _ ?side1 ?side2 A3.out).mono ?_); (case side1 => repeat (first | exact HR0.out | (with_reducible refine Kd.C_alloc ?_ _) | (with_reducible refine Kd.C_drewN ?_ _) | (with_reducible refine Kd.C_drew ?_))); (case side2 => exact HC0.out); rintro e w6 ⟨rfl, hb⟩; refine ⟨_, rfl, ?_⟩; have n0_ := am_ (below_step bl_ hb); clear HB; have HB := n0_; clear n0_; (try clear hb); (try clear hb2); (try clear hk); (try clear hi)))
   go_ret
   exact ⟨_, rf_, ni_, bl_⟩
  ·rw [if_neg c5] at H
   have c5b0 : decide (1000 < (l1.length : Int)) = false := decide_eq_false c5
   have c5b1 : decide (1000 < l1.length) = false := decide_eq_false (by omega)
   clear c5
   replace H := Option.bind_eq_some_iff.mp H
   obtain ⟨t1002, A70, H⟩ := H
   replace H : (some t1002) = some r := H
   have A7 := am_ A70
   clear A70
   obtain rfl := Option.some.inj H
   go_enter Try.func31, Try.ntmps31
   go_wp2_with (first | ((with_reducible refine gate_callee (f := 69) rfl ?_); refine goesL_ (some 6) rfl rfl Try.func69 (by kernel_rfl) rfl #[.slice A0 l0.length c0] rfl ag_ ?_; (with_reducible refine (impl_GoodLabels.calls k _ _ l0 true _ ?side1 ?side2 A3.out).mono ?_); (case side1 => repeat (first | exact HR0.out | (with_reducible refine Kd.C_alloc ?_ _) | (with_reducible refine Kd.C_drewN ?_ _) | (with_reducible refine Kd.C_drew ?_))); (case side2 => exact HC0.out); rintro e w8 ⟨rfl, hb⟩; refine ⟨_, rfl, ?_⟩; have n0_ := am_ (below_step bl_ hb); clear HB; have HB := n0_; clear n0_; (try clear hb); (try clear hb2); (try clear hk); (try clear hi)) | ((with_reducible refine gate_callee (f := 78) rfl ?_); refine goesL_ (some 15) rfl rfl Try.func78 (by kernel_rfl) rfl #[.slice A0 l0.length c0, .slice A1 l1.length c1] rfl ag_ ?_; (with_reducible refine (impl_drop.calls k _ _ l0 _ _ l1 t1002 _ ?side1 ?side2 ?side3 ?side4 A7.out).mono ?_); (case side1 => exact cc_ (Kd.C_below HR0.out HB.out)); (case side2 => exact HC0.out); (case side3 => exact cc_ (Kd.C_below HR1.out HB.out)); (case side4 => exact HC1.out); rintro e w9 ⟨v1003, rfl, ho0, hb⟩; refine ⟨_, rfl, ?_⟩; have n0_ := am_ (Kd.R_lower ho0 (below_size bl_)); have n1_ := am_ (below_step bl_ hb); clear HB; have HO1004 := n0_; have HB := n1_; clear n0_ n1_; (try clear hb); (try clear hb2); (try clear hk); (try clear hi); (try clear ho0)))
   go_ret
   exact ⟨_, rf_, by (with_reducible repeat (first | apply Kd.R_alloc | apply Kd.R_drewN | apply Kd.R_drew)); exact HO1004.out, bl_⟩
 ·replace c4 := Bool.eq_false_iff.mpr c4
  subst c4
  have H1 : (some ([] : List (S86))) = some r := by rw [if_neg (show ¬ (false = true) by decide)] at H; exact H
  clear H
  have H := H1
  clear H1
  obtain rfl := Option.some.inj H
  go_enter Try.func31, Try.ntmps31
  go_wp2_with (first | ((with_reducible refine gate_callee (f := 69) rfl ?_); refine goesL_ (some 6) rfl rfl Try.func69 (by kernel_rfl) rfl #[.slice A0 l0.length c0] rfl ag_ ?_; (with_reducible refine (impl_GoodLabels.calls k _ _ l0 false _ ?side1 ?side2 A3.out).mono ?_); (case side1 => repeat (first | exact HR0.out | (with_reducible refine Kd.C_alloc ?_ _) | (with_reducible refine Kd.C_drewN ?_ _) | (with_reducible refine Kd.C_drew ?_))); (case side2 => exact HC0.out); rintro e w10 ⟨rfl, hb⟩; refine ⟨_, rfl, ?_⟩; have n0_ := am_ (below_step bl_ hb); clear HB; have HB := n0_; clear n0_; (try clear hb); (try clear hb2); (try clear hk); (try clear hi)))
  go_ret
  exact ⟨_, rf_, ni_, bl_⟩

/-! ### laws_FnExactDropLabels: function 6 -/
def laws_FnExactDropLabels.j0 : Nat → List (S84) → List ByteArray → List (S86) → List (S86) → Bool → Option (Bool)
 | 0, _, _, _, _, _ => none
 | k + 1, x0, x1, x6, x9, x63 => if x63 = true then (none) else ((laws_markLabelS.f k x9 1).bind fun bt1035 => ((laws_heldLabelS.f k bt1035.2 1).bind fun t1037 => (if t1037 < 0 then (none) else (if t1037 = bt1035.1 then ((laws_toLabelS.f k x0).bind fun t1038 => ((laws_toStringS.f k x1).bind fun t1041 => ((impl_DropLabels.f k t1038 t1041).bind fun t1044 => ((laws_eqLabelS.f k t1044 x6).bind fun t1047 => (if t1047 = true then ((laws_heldLabelS.f k bt1035.2 1).bind fun t1048 => (if t1048 < 0 then (none) else (if t1048 = bt1035.1 then (some true) else (none)))) else (none)))))) else (none)))))
def laws_FnExactDropLabels.f (k : Nat) (l0 : List (S84)) (l1 : List ByteArray) : Option (Bool) := (laws_szLabelS.f k l0 1048576).bind fun t1001 => (if t1001 < 0 then (some true) else ((laws_szStringS.f k l1 t1001).bind fun t1002 => (if t1002 < 0 then (some true) else ((laws_toLabelS.f k l0).bind fun t1003 => ((laws_toStringS.f k l1).bind fun t1006 => ((spec_DropLabels.f k t1003 t1006).bind fun t1009 => ((laws_toLabelS.f k l0).bind fun t1012 => ((laws_toStringS.f k l1).bind fun t1015 => ((impl_DropLabels.f k t1012 t1015).bind fun t1018 => ((laws_eqLabelS.f k t1018 t1009).bind fun t1021 => (if t1021 = true then ((laws_toLabelS.f k l0).bind fun t1022 => ((laws_eqLabelS.f k t1012 t1022).bind fun t1025 => (if t1025 = true then ((laws_toStringS.f k l1).bind fun t1026 => ((laws_eqStringS.f k t1015 t1026).bind fun t1029 => (if t1029 = true then ((laws_markLabelS.f k t1012 1).bind fun bt1030 => ((laws_markStringS.f k t1015 bt1030.1).bind fun bt1032 => (if bt1032.1 < 0 then (laws_FnExactDropLabels.j0 k l0 l1 t1009 t1018 true) else ((laws_eqLabelS.f k t1018 t1009).bind fun t1034 => (laws_FnExactDropLabels.j0 k l0 l1 t1009 t1018 (!t1034)))))) else (none)))) else (none)))) else (none))))))))))))
theorem laws_FnExactDropLabels.mono_l : ∀ k, (∀ y0 y1 y2 y3 y4, LeO (laws_FnExactDropLabels.j0 k y0 y1 y2 y3 y4) (laws_FnExactDropLabels.j0 (k + 1) y0 y1 y2 y3 y4))
 | 0 => fun _ _ _ _ _ r h => by simp [laws_FnExactDropLabels.j0] at h
 | k + 1 => by
  have ih0 := laws_FnExactDropLabels.mono_l k
  ·intro y0 y1 y2 y3 y4
   unfold laws_FnExactDropLabels.j0
   repeat' first
   | with_reducible first | exact ih0 _ _ _ _ _ | exact impl_DropLabels.mono _ _ _ | exact laws_eqLabelS.mono _ _ _ | exact laws_eqStringS.mono _ _ _ | exact laws_heldLabelS.mono _ _ _ | exact laws_markLabelS.mono _ _ _ | exact laws_markStringS.mono _ _ _ | exact laws_szLabelS.mono _ _ _ | exact laws_szStringS.mono _ _ _ | exact laws_toLabelS.mono _ _ | exact laws_toStringS.mono _ _ | exact spec_DropLabels.mono _ _ _ | exact LeO.refl _ | exact LeO.none _ | refine LeO.ite ?_ ?_ | refine LeO.bind ?_ (fun _ => ?_)
   | exact ih0 _ _ _ _ _
   | exact impl_DropLabels.mono _ _ _
   | exact laws_eqLabelS.mono _ _ _
   | exact laws_eqStringS.mono _ _ _
   | exact laws_heldLabelS.mono _ _ _
   | exact laws_markLabelS.mono _ _ _
   | exact laws_markStringS.mono _ _ _
   | exact laws_szLabelS.mono _ _ _
   | exact laws_szStringS.mono _ _ _
   | exact laws_toLabelS.mono _ _
   | exact laws_toStringS.mono _ _
   | exact spec_DropLabels.mono _ _ _
   | exact LeO.none _
   | refine LeO.ite ?_ ?_
   | refine LeO.bind ?_ (fun _ => ?_)
theorem laws_FnExactDropLabels.mono : ∀ a0 a1 k, LeO (laws_FnExactDropLabels.f k a0 a1) (laws_FnExactDropLabels.f (k + 1) a0 a1) := by
 intro a0 a1 k
 have ih0 := laws_FnExactDropLabels.mono_l k
 unfold laws_FnExactDropLabels.f
 repeat' first
   | with_reducible first | exact ih0 _ _ _ _ _ | exact impl_DropLabels.mono _ _ _ | exact laws_eqLabelS.mono _ _ _ | exact laws_eqStringS.mono _ _ _ | exact laws_heldLabelS.mono _ _ _ | exact laws_markLabelS.mono _ _ _ | exact laws_markStringS.mono _ _ _ | exact laws_szLabelS.mono _ _ _ | exact laws_szStringS.mono _ _ _ | exact laws_toLabelS.mono _ _ | exact laws_toStringS.mono _ _ | exact spec_DropLabels.mono _ _ _ | exact LeO.refl _ | exact LeO.none _ | refine LeO.ite ?_ ?_ | refine LeO.bind ?_ (fun _ => ?_)
   | exact ih0 _ _ _ _ _
   | exact impl_DropLabels.mono _ _ _
   | exact laws_eqLabelS.mono _ _ _
   | exact laws_eqStringS.mono _ _ _
   | exact laws_heldLabelS.mono _ _ _
   | exact laws_markLabelS.mono _ _ _
   | exact laws_markStringS.mono _ _ _
   | exact laws_szLabelS.mono _ _ _
   | exact laws_szStringS.mono _ _ _
   | exact laws_toLabelS.mono _ _
   | exact laws_toStringS.mono _ _
   | exact spec_DropLabels.mono _ _ _
   | exact LeO.none _
   | refine LeO.ite ?_ ?_
   | refine LeO.bind ?_ (fun _ => ?_)
set_option maxHeartbeats 8000000 in
set_option maxRecDepth 100000 in
theorem laws_FnExactDropLabels.calls (k : Nat) (A0 : Option Addr) (c0 : Nat) (l0 : List (S84)) (A1 : Option Addr) (c1 : Nat) (l1 : List ByteArray) (r : Bool) (w : World) (hr0 : Kd.C k84 w A0 l0.length l0) (hc0 : l0.length ≤ c0) (hr1 : Kd.C Kd.string w A1 l1.length l1) (hc1 : l1.length ≤ c1) (h : laws_FnExactDropLabels.f k l0 l1 = some r) :
  Calls Try.prog 6 #[.slice A0 l0.length c0, .slice A1 l1.length c1] w fun e w' => e = .returned (.bool r) ∧ Below w.heap.size w w' := by
 have HR0 := am_ hr0
 have HC0 := am_ hc0
 clear hr0 hc0
 have HR1 := am_ hr1
 have HC1 := am_ hc1
 clear hr1 hc1
 have HB := am_ (Below.refl w.heap.size w)
 have H : ((laws_szLabelS.f k l0 1048576).bind fun t1001 => (if t1001 < 0 then (some true) else ((laws_szStringS.f k l1 t1001).bind fun t1002 => (if t1002 < 0 then (some true) else ((laws_toLabelS.f k l0).bind fun t1003 => ((laws_toStringS.f k l1).bind fun t1006 => ((spec_DropLabels.f k t1003 t1006).bind fun t1009 => ((laws_toLabelS.f k l0).bind fun t1012 => ((laws_toStringS.f k l1).bind fun t1015 => ((impl_DropLabels.f k t1012 t1015).bind fun t1018 => ((laws_eqLabelS.f k t1018 t1009).bind fun t1021 => (if t1021 = true then ((laws_toLabelS.f k l0).bind fun t1022 => ((laws_eqLabelS.f k t1012 t1022).bind fun t1025 => (if t1025 = true then ((laws_toStringS.f k l1).bind fun t1026 => ((laws_eqStringS.f k t1015 t1026).bind fun t1029 => (if t1029 = true then ((laws_markLabelS.f k t1012 1).bind fun bt1030 => ((laws_markStringS.f k t1015 bt1030.1).bind fun bt1032 => (if bt1032.1 < 0 then (laws_FnExactDropLabels.j0 k l0 l1 t1009 t1018 true) else ((laws_eqLabelS.f k t1018 t1009).bind fun t1034 => (laws_FnExactDropLabels.j0 k l0 l1 t1009 t1018 (!t1034)))))) else (none)))) else (none)))) else (none))))))))))))) = some r := h
 clear h
 replace H := Option.bind_eq_some_iff.mp H
 obtain ⟨t1001, A30, H⟩ := H
 replace H : (if t1001 < 0 then (some true) else ((laws_szStringS.f k l1 t1001).bind fun t1002 => (if t1002 < 0 then (some true) else ((laws_toLabelS.f k l0).bind fun t1003 => ((laws_toStringS.f k l1).bind fun t1006 => ((spec_DropLabels.f k t1003 t1006).bind fun t1009 => ((laws_toLabelS.f k l0).bind fun t1012 => ((laws_toStringS.f k l1).bind fun t1015 => ((impl_DropLabels.f k t1012 t1015).bind fun t1018 => ((laws_eqLabelS.f k t1018 t1009).bind fun t1021 => (if t1021 = true then ((laws_toLabelS.f k l0).bind fun t1022 => ((laws_eqLabelS.f k t1012 t1022).bind fun t1025 => (if t1025 = true then ((laws_toStringS.f k l1).bind fun t1026 => ((laws_eqStringS.f k t1015 t1026).bind fun t1029 => (if t1029 = true then ((laws_markLabelS.f k t1012 1).bind fun bt1030 => ((laws_markStringS.f k t1015 bt1030.1).bind fun bt1032 => (if bt1032.1 < 0 then (laws_FnExactDropLabels.j0 k l0 l1 t1009 t1018 true) else ((laws_eqLabelS.f k t1018 t1009).bind fun t1034 => (laws_FnExactDropLabels.j0 k l0 l1 t1009 t1018 (!t1034)))))) else (none)))) else (none)))) else (none)))))))))))) = some r := H
 have A3 := am_ A30
 clear A30
 by_cases c4 : t1001 < 0
 ·rw [if_pos c4] at H
  have c4b0 : decide (t1001 < 0) = true := decide_eq_true c4
  clear c4
  obtain rfl := Option.some.inj H
  go_enter Try.func6, Try.ntmps6
  go_wp2_with (first | ((with_reducible refine gate_callee (f := 19) rfl ?_); refine goesL_ (some 16) rfl rfl Try.func19 (by kernel_rfl) rfl #[.slice A0 l0.length c0, .int .i64 1048576] rfl ag_ ?_; (with_reducible refine (laws_szLabelS.calls k _ _ l0 1048576 t1001 _ ?side1 ?side2 A3.out).mono ?_); (case side1 => repeat (first | exact HR0.out | (with_reducible refine Kd.C_alloc ?_ _) | (with_reducible refine Kd.C_drewN ?_ _) | (with_reducible refine Kd.C_drew ?_))); (case side2 => exact HC0.out); rintro e w5 ⟨rfl, hb⟩; refine ⟨_, rfl, ?_⟩; have n0_ := am_ (below_step bl_ hb); clear HB; have HB := n0_; clear n0_; (try clear hb); (try clear hb2); (try clear hk); (try clear hi)))
  go_ret
  exact ⟨rf_, bl_⟩
 ·rw [if_neg c4] at H
  have c4b0 : decide (t1001 < 0) = false := decide_eq_false c4
  clear c4
  replace H := Option.bind_eq_some_iff.mp H
  obtain ⟨t1002, A60, H⟩ := H
  replace H : (if t1002 < 0 then (some true) else ((laws_toLabelS.f k l0).bind fun t1003 => ((laws_toStringS.f k l1).bind fun t1006 => ((spec_DropLabels.f k t1003 t1006).bind fun t1009 => ((laws_toLabelS.f k l0).bind fun t1012 => ((laws_toStringS.f k l1).bind fun t1015 => ((impl_DropLabels.f k t1012 t1015).bind fun t1018 => ((laws_eqLabelS.f k t1018 t1009).bind fun t1021 => (if t1021 = true then ((laws_toLabelS.f k l0).bind fun t1022 => ((laws_eqLabelS.f k t1012 t1022).bind fun t1025 => (if t1025 = true then ((laws_toStringS.f k l1).bind fun t1026 => ((laws_eqStringS.f k t1015 t1026).bind fun t1029 => (if t1029 = true then ((laws_markLabelS.f k t1012 1).bind fun bt1030 => ((laws_markStringS.f k t1015 bt1030.1).bind fun bt1032 => (if bt1032.1 < 0 then (laws_FnExactDropLabels.j0 k l0 l1 t1009 t1018 true) else ((laws_eqLabelS.f k t1018 t1009).bind fun t1034 => (laws_FnExactDropLabels.j0 k l0 l1 t1009 t1018 (!t1034)))))) else (none)))) else (none)))) else (none)))))))))) = some r := H
  have A6 := am_ A60
  clear A60
  by_cases c7 : t1002 < 0
  ·rw [if_pos c7] at H
   have c7b0 : decide (t1002 < 0) = true := decide_eq_true c7
   clear c7
   obtain rfl := Option.some.inj H
   go_enter Try.func6, Try.ntmps6
   go_wp2_with (first | ((with_reducible refine gate_callee (f := 19) rfl ?_); refine goesL_ (some 16) rfl rfl Try.func19 (by kernel_rfl) rfl #[.slice A0 l0.length c0, .int .i64 1048576] rfl ag_ ?_; (with_reducible refine (laws_szLabelS.calls k _ _ l0 1048576 t1001 _ ?side1 ?side2 A3.out).mono ?_); (case side1 => repeat (first | exact HR0.out | (with_reducible refine Kd.C_alloc ?_ _) | (with_reducible refine Kd.C_drewN ?_ _) | (with_reducible refine Kd.C_drew ?_))); (case side2 => exact HC0.out); rintro e w8 ⟨rfl, hb⟩; refine ⟨_, rfl, ?_⟩; have n0_ := am_ (below_step bl_ hb); clear HB; have HB := n0_; clear n0_; (try clear hb); (try clear hb2); (try clear hk); (try clear hi)) | ((with_reducible refine gate_callee (f := 28) rfl ?_); refine goesL_ (some 21) rfl rfl Try.func28 (by kernel_rfl) rfl #[.slice A1 l1.length c1, .int .i64 t1001] rfl ag_ ?_; (with_reducible refine (laws_szStringS.calls k _ _ l1 t1001 t1002 _ ?side1 ?side2 A6.out).mono ?_); (case side1 => exact cc_ (Kd.C_below HR1.out HB.out)); (case side2 => exact HC1.out); rintro e w' ⟨rfl, ⟨nd, rfl⟩⟩; refine ⟨_, rfl, ?_⟩))
   go_ret
   exact ⟨rf_, bl_⟩
  ·rw [if_neg c7] at H
   have c7b0 : decide (t1002 < 0) = false := decide_eq_false c7
   clear c7
   replace H := Option.bind_eq_some_iff.mp H
   obtain ⟨t1003, A90, H⟩ := H
   replace H : ((laws_toStringS.f k l1).bind fun t1006 => ((spec_DropLabels.f k t1003 t1006).bind fun t1009 => ((laws_toLabelS.f k l0).bind fun t1012 => ((laws_toStringS.f k l1).bind fun t1015 => ((impl_DropLabels.f k t1012 t1015).bind fun t1018 => ((laws_eqLabelS.f k t1018 t1009).bind fun t1021 => (if t1021 = true then ((laws_toLabelS.f k l0).bind fun t1022 => ((laws_eqLabelS.f k t1012 t1022).bind fun t1025 => (if t1025 = true then ((laws_toStringS.f k l1).bind fun t1026 => ((laws_eqStringS.f k t1015 t1026).bind fun t1029 => (if t1029 = true then ((laws_markLabelS.f k t1012 1).bind fun bt1030 => ((laws_markStringS.f k t1015 bt1030.1).bind fun bt1032 => (if bt1032.1 < 0 then (laws_FnExactDropLabels.j0 k l0 l1 t1009 t1018 true) else ((laws_eqLabelS.f k t1018 t1009).bind fun t1034 => (laws_FnExactDropLabels.j0 k l0 l1 t1009 t1018 (!t1034)))))) else (none)))) else (none)))) else (none)))))))) = some r := H
   have A9 := am_ A90
   clear A90
   replace H := Option.bind_eq_some_iff.mp H
   obtain ⟨t1006, A100, H⟩ := H
   replace H : ((spec_DropLabels.f k t1003 t1006).bind fun t1009 => ((laws_toLabelS.f k l0).bind fun t1012 => ((laws_toStringS.f k l1).bind fun t1015 => ((impl_DropLabels.f k t1012 t1015).bind fun t1018 => ((laws_eqLabelS.f k t1018 t1009).bind fun t1021 => (if t1021 = true then ((laws_toLabelS.f k l0).bind fun t1022 => ((laws_eqLabelS.f k t1012 t1022).bind fun t1025 => (if t1025 = true then ((laws_toStringS.f k l1).bind fun t1026 => ((laws_eqStringS.f k t1015 t1026).bind fun t1029 => (if t1029 = true then ((laws_markLabelS.f k t1012 1).bind fun bt1030 => ((laws_markStringS.f k t1015 bt1030.1).bind fun bt1032 => (if bt1032.1 < 0 then (laws_FnExactDropLabels.j0 k l0 l1 t1009 t1018 true) else ((laws_eqLabelS.f k t1018 t1009).bind fun t1034 => (laws_FnExactDropLabels.j0 k l0 l1 t1009 t1018 (!t1034)))))) else (none)))) else (none)))) else (none))))))) = some r := H
   have A10 := am_ A100
   clear A100
   replace H := Option.bind_eq_some_iff.mp H
   obtain ⟨t1009, A110, H⟩ := H
   replace H : ((laws_toLabelS.f k l0).bind fun t1012 => ((laws_toStringS.f k l1).bind fun t1015 => ((impl_DropLabels.f k t1012 t1015).bind fun t1018 => ((laws_eqLabelS.f k t1018 t1009).bind fun t1021 => (if t1021 = true then ((laws_toLabelS.f k l0).bind fun t1022 => ((laws_eqLabelS.f k t1012 t1022).bind fun t1025 => (if t1025 = true then ((laws_toStringS.f k l1).bind fun t1026 => ((laws_eqStringS.f k t1015 t1026).bind fun t1029 => (if t1029 = true then ((laws_markLabelS.f k t1012 1).bind fun bt1030 => ((laws_markStringS.f k t1015 bt1030.1).bind fun bt1032 => (if bt1032.1 < 0 then (laws_FnExactDropLabels.j0 k l0 l1 t1009 t1018 true) else ((laws_eqLabelS.f k t1018 t1009).bind fun t1034 => (laws_FnExactDropLabels.j0 k l0 l1 t1009 t1018 (!t1034)))))) else (none)))) else (none)))) else (none)))))) = some r := H
   have A11 := am_ A110
   clear A110
   replace H := Option.bind_eq_some_iff.mp H
   obtain ⟨t1012, A120, H⟩ := H
   replace H : ((laws_toStringS.f k l1).bind fun t1015 => ((impl_DropLabels.f k t1012 t1015).bind fun t1018 => ((laws_eqLabelS.f k t1018 t1009).bind fun t1021 => (if t1021 = true then ((laws_toLabelS.f k l0).bind fun t1022 => ((laws_eqLabelS.f k t1012 t1022).bind fun t1025 => (if t1025 = true then ((laws_toStringS.f k l1).bind fun t1026 => ((laws_eqStringS.f k t1015 t1026).bind fun t1029 => (if t1029 = true then ((laws_markLabelS.f k t1012 1).bind fun bt1030 => ((laws_markStringS.f k t1015 bt1030.1).bind fun bt1032 => (if bt1032.1 < 0 then (laws_FnExactDropLabels.j0 k l0 l1 t1009 t1018 true) else ((laws_eqLabelS.f k t1018 t1009).bind fun t1034 => (laws_FnExactDropLabels.j0 k l0 l1 t1009 t1018 (!t1034)))))) else (none)))) else (none)))) else (none))))) = some r := H
   have A12 := am_ A120
   clear A120
   replace H := Option.bind_eq_some_iff.mp H
   obtain ⟨t1015, A130, H⟩ := H
   replace H : ((impl_DropLabels.f k t1012 t1015).bind fun t1018 => ((laws_eqLabelS.f k t1018 t1009).bind fun t1021 => (if t1021 = true then ((laws_toLabelS.f k l0).bind fun t1022 => ((laws_eqLabelS.f k t1012 t1022).bind fun t1025 => (if t1025 = true then ((laws_toStringS.f k l1).bind fun t1026 => ((laws_eqStringS.f k t1015 t1026).bind fun t1029 => (if t1029 = true then ((laws_markLabelS.f k t1012 1).bind fun bt1030 => ((laws_markStringS.f k t1015 bt1030.1).bind fun bt1032 => (if bt1032.1 < 0 then (laws_FnExactDropLabels.j0 k l0 l1 t1009 t1018 true) else ((laws_eqLabelS.f k t1018 t1009).bind fun t1034 => (laws_FnExactDropLabels.j0 k l0 l1 t1009 t1018 (!t1034)))))) else (none)))) else (none)))) else (none)))) = some r := H
   have A13 := am_ A130
   clear A130
   replace H := Option.bind_eq_some_iff.mp H
   obtain ⟨t1018, A140, H⟩ := H
   replace H : ((laws_eqLabelS.f k t1018 t1009).bind fun t1021 => (if t1021 = true then ((laws_toLabelS.f k l0).bind fun t1022 => ((laws_eqLabelS.f k t1012 t1022).bind fun t1025 => (if t1025 = true then ((laws_toStringS.f k l1).bind fun t1026 => ((laws_eqStringS.f k t1015 t1026).bind fun t1029 => (if t1029 = true then ((laws_markLabelS.f k t1012 1).bind fun bt1030 => ((laws_markStringS.f k t1015 bt1030.1).bind fun bt1032 => (if bt1032.1 < 0 then (laws_FnExactDropLabels.j0 k l0 l1 t1009 t1018 true) else ((laws_eqLabelS.f k t1018 t1009).bind fun t1034 => (laws_FnExactDropLabels.j0 k l0 l1 t1009 t1018 (!t1034)))))) else (none)))) else (none)))) else (none))) = some r := H
   have A14 := am_ A140
   clear A140
   replace H := Option.bind_eq_some_iff.mp H
   obtain ⟨t1021, A150, H⟩ := H
   replace H : (if t1021 = true then ((laws_toLabelS.f k l0).bind fun t1022 => ((laws_eqLabelS.f k t1012 t1022).bind fun t1025 => (if t1025 = true then ((laws_toStringS.f k l1).bind fun t1026 => ((laws_eqStringS.f k t1015 t1026).bind fun t1029 => (if t1029 = true then ((laws_markLabelS.f k t1012 1).bind fun bt1030 => ((laws_markStringS.f k t1015 bt1030.1).bind fun bt1032 => (if bt1032.1 < 0 then (laws_FnExactDropLabels.j0 k l0 l1 t1009 t1018 true) else ((laws_eqLabelS.f k t1018 t1009).bind fun t1034 => (laws_FnExactDropLabels.j0 k l0 l1 t1009 t1018 (!t1034)))))) else (none)))) else (none)))) else (none)) = some r := H
   have A15 := am_ A150
   clear A150
   by_cases c16 : t1021 = true
   ·subst c16
    have H1 : ((laws_toLabelS.f k l0).bind fun t1022 => ((laws_eqLabelS.f k t1012 t1022).bind fun t1025 => (if t1025 = true then ((laws_toStringS.f k l1).bind fun t1026 => ((laws_eqStringS.f k t1015 t1026).bind fun t1029 => (if t1029 = true then ((laws_markLabelS.f k t1012 1).bind fun bt1030 => ((laws_markStringS.f k t1015 bt1030.1).bind fun bt1032 => (if bt1032.1 < 0 then (laws_FnExactDropLabels.j0 k l0 l1 t1009 t1018 true) else ((laws_eqLabelS.f k t1018 t1009).bind fun t1034 => (laws_FnExactDropLabels.j0 k l0 l1 t1009 t1018 (!t1034)))))) else (none)))) else (none)))) = some r := by rw [if_pos rfl] at H; exact H
    clear H
    have H := H1
    clear H1
    replace H := Option.bind_eq_some_iff.mp H
    obtain ⟨t1022, A170, H⟩ := H
    replace H : ((laws_eqLabelS.f k t1012 t1022).bind fun t1025 => (if t1025 = true then ((laws_toStringS.f k l1).bind fun t1026 => ((laws_eqStringS.f k t1015 t1026).bind fun t1029 => (if t1029 = true then ((laws_markLabelS.f k t1012 1).bind fun bt1030 => ((laws_markStringS.f k t1015 bt1030.1).bind fun bt1032 => (if bt1032.1 < 0 then (laws_FnExactDropLabels.j0 k l0 l1 t1009 t1018 true) else ((laws_eqLabelS.f k t1018 t1009).bind fun t1034 => (laws_FnExactDropLabels.j0 k l0 l1 t1009 t1018 (!t1034)))))) else (none)))) else (none))) = some r := H
    have A17 := am_ A170
    clear A170
    replace H := Option.bind_eq_some_iff.mp H
    obtain ⟨t1025, A180, H⟩ := H
    replace H : (if t1025 = true then ((laws_toStringS.f k l1).bind fun t1026 => ((laws_eqStringS.f k t1015 t1026).bind fun t1029 => (if t1029 = true then ((laws_markLabelS.f k t1012 1).bind fun bt1030 => ((laws_markStringS.f k t1015 bt1030.1).bind fun bt1032 => (if bt1032.1 < 0 then (laws_FnExactDropLabels.j0 k l0 l1 t1009 t1018 true) else ((laws_eqLabelS.f k t1018 t1009).bind fun t1034 => (laws_FnExactDropLabels.j0 k l0 l1 t1009 t1018 (!t1034)))))) else (none)))) else (none)) = some r := H
    have A18 := am_ A180
    clear A180
    by_cases c19 : t1025 = true
    ·subst c19
     have H1 : ((laws_toStringS.f k l1).bind fun t1026 => ((laws_eqStringS.f k t1015 t1026).bind fun t1029 => (if t1029 = true then ((laws_markLabelS.f k t1012 1).bind fun bt1030 => ((laws_markStringS.f k t1015 bt1030.1).bind fun bt1032 => (if bt1032.1 < 0 then (laws_FnExactDropLabels.j0 k l0 l1 t1009 t1018 true) else ((laws_eqLabelS.f k t1018 t1009).bind fun t1034 => (laws_FnExactDropLabels.j0 k l0 l1 t1009 t1018 (!t1034)))))) else (none)))) = some r := by rw [if_pos rfl] at H; exact H
     clear H
     have H := H1
     clear H1
     replace H := Option.bind_eq_some_iff.mp H
     obtain ⟨t1026, A200, H⟩ := H
     replace H : ((laws_eqStringS.f k t1015 t1026).bind fun t1029 => (if t1029 = true then ((laws_markLabelS.f k t1012 1).bind fun bt1030 => ((laws_markStringS.f k t1015 bt1030.1).bind fun bt1032 => (if bt1032.1 < 0 then (laws_FnExactDropLabels.j0 k l0 l1 t1009 t1018 true) else ((laws_eqLabelS.f k t1018 t1009).bind fun t1034 => (laws_FnExactDropLabels.j0 k l0 l1 t1009 t1018 (!t1034)))))) else (none))) = some r := H
     have A20 := am_ A200
     clear A200
     replace H := Option.bind_eq_some_iff.mp H
     obtain ⟨t1029, A210, H⟩ := H
     replace H : (if t1029 = true then ((laws_markLabelS.f k t1012 1).bind fun bt1030 => ((laws_markStringS.f k t1015 bt1030.1).bind fun bt1032 => (if bt1032.1 < 0 then (laws_FnExactDropLabels.j0 k l0 l1 t1009 t1018 true) else ((laws_eqLabelS.f k t1018 t1009).bind fun t1034 => (laws_FnExactDropLabels.j0 k l0 l1 t1009 t1018 (!t1034)))))) else (none)) = some r := H
     have A21 := am_ A210
     clear A210
     by_cases c22 : t1029 = true
     ·subst c22
      have H1 : ((laws_markLabelS.f k t1012 1).bind fun bt1030 => ((laws_markStringS.f k t1015 bt1030.1).bind fun bt1032 => (if bt1032.1 < 0 then (laws_FnExactDropLabels.j0 k l0 l1 t1009 t1018 true) else ((laws_eqLabelS.f k t1018 t1009).bind fun t1034 => (laws_FnExactDropLabels.j0 k l0 l1 t1009 t1018 (!t1034)))))) = some r := by rw [if_pos rfl] at H; exact H
      clear H
      have H := H1
      clear H1
      replace H := Option.bind_eq_some_iff.mp H
      obtain ⟨⟨t1030, t1031⟩, A230, H⟩ := H
      replace H : ((laws_markStringS.f k t1015 t1030).bind fun bt1032 => (if bt1032.1 < 0 then (laws_FnExactDropLabels.j0 k l0 l1 t1009 t1018 true) else ((laws_eqLabelS.f k t1018 t1009).bind fun t1034 => (laws_FnExactDropLabels.j0 k l0 l1 t1009 t1018 (!t1034))))) = some r := H
      have A23 := am_ A230
      clear A230
      replace H := Option.bind_eq_some_iff.mp H
      obtain ⟨⟨t1032, t1033⟩, A240, H⟩ := H
      replace H : (if t1032 < 0 then (laws_FnExactDropLabels.j0 k l0 l1 t1009 t1018 true) else ((laws_eqLabelS.f k t1018 t1009).bind fun t1034 => (laws_FnExactDropLabels.j0 k l0 l1 t1009 t1018 (!t1034)))) = some r := H
      have A24 := am_ A240
      clear A240
      have HC25 := am_ H
      clear H
      go_enter Try.func6, Try.ntmps6
      go_upto_region 21 with (first | ((with_reducible refine gate_callee (f := 19) rfl ?_); refine goesL_ (some 16) rfl rfl Try.func19 (by kernel_rfl) rfl #[.slice A0 l0.length c0, .int .i64 1048576] rfl ag_ ?_; (with_reducible refine (laws_szLabelS.calls k _ _ l0 1048576 t1001 _ ?side1 ?side2 A3.out).mono ?_); (case side1 => repeat (first | exact HR0.out | (with_reducible refine Kd.C_alloc ?_ _) | (with_reducible refine Kd.C_drewN ?_ _) | (with_reducible refine Kd.C_drew ?_))); (case side2 => exact HC0.out); rintro e w26 ⟨rfl, hb⟩; refine ⟨_, rfl, ?_⟩; have n0_ := am_ (below_step bl_ hb); clear HB; have HB := n0_; clear n0_; (try clear hb); (try clear hb2); (try clear hk); (try clear hi)) | ((with_reducible refine gate_callee (f := 28) rfl ?_); refine goesL_ (some 21) rfl rfl Try.func28 (by kernel_rfl) rfl #[.slice A1 l1.length c1, .int .i64 t1001] rfl ag_ ?_; (with_reducible refine (laws_szStringS.calls k _ _ l1 t1001 t1002 _ ?side1 ?side2 A6.out).mono ?_); (case side1 => exact cc_ (Kd.C_below HR1.out HB.out)); (case side2 => exact HC1.out); rintro e w' ⟨rfl, ⟨nd, rfl⟩⟩; refine ⟨_, rfl, ?_⟩) | ((with_reducible refine gate_callee (f := 21) rfl ?_); refine goesL_ (some 25) rfl rfl Try.func21 (by kernel_rfl) rfl #[.slice A0 l0.length c0] rfl ag_ ?_; (with_reducible refine (laws_toLabelS.calls k _ _ l0 t1003 _ ?side1 ?side2 A9.out).mono ?_); (case side1 => exact cc_ (Kd.C_below HR0.out bl_)); (case side2 => exact HC0.out); rintro e w27 ⟨v1004, rfl, ho0, hb⟩; refine ⟨_, rfl, ?_⟩; have n0_ := am_ (Kd.R_lower ho0 (below_size bl_)); have n1_ := am_ (below_step bl_ hb); clear HB; have HO1005 := n0_; have HB := n1_; clear n0_ n1_; (try clear hb); (try clear hb2); (try clear hk); (try clear hi); (try clear ho0)) | ((with_reducible refine gate_callee (f := 30) rfl ?_); refine goesL_ (some 27) rfl rfl Try.func30 (by kernel_rfl) rfl #[.slice A1 l1.length c1] rfl ag_ ?_; (with_reducible refine (laws_toStringS.calls k _ _ l1 t1006 _ ?side1 ?side2 A10.out).mono ?_); (case side1 => exact cc_ (Kd.C_below HR1.out HB.out)); (case side2 => exact HC1.out); rintro e w28 ⟨v1007, rfl, ho0, hb⟩; refine ⟨_, rfl, ?_⟩; have n0_ := am_ (Kd.R_below (ro_ HO1005) hb); have n1_ := am_ (Kd.R_lower ho0 (below_size bl_)); have n2_ := am_ (below_step bl_ hb); clear HO1005; clear HB; have HO1005 := n0_; have HO1008 := n1_; have HB := n2_; clear n0_ n1_ n2_; (try clear hb); (try clear hb2); (try clear hk); (try clear hi); (try clear ho0); obtain ⟨Ao29, co29, eo29⟩ := Kd.R_slice HO1005.out; subst eo29; obtain ⟨Ao30, co30, eo30⟩ := Kd.R_slice HO1008.out; subst eo30) | ((with_reducible refine gate_callee (f := 29) rfl ?_); refine goesL_ (some 28) rfl rfl Try.func29 (by kernel_rfl) rfl #[.slice Ao29 t1003.length co29, .slice Ao30 t1006.length co30] rfl ag_ ?_; (with_reducible refine (spec_DropLabels.calls k _ _ t1003 _ _ t1006 t1009 _ ?side1 ?side2 ?side3 ?side4 A11.out).mono ?_); (case side1 => exact cc_ (Kd.R_reads' HO1005.out).2.2); (case side2 => exact (Kd.R_reads' HO1005.out).2.1); (case side3 => exact cc_ (Kd.R_reads' HO1008.out).2.2); (case side4 => exact (Kd.R_reads' HO1008.out).2.1); rintro e w31 ⟨v1010, rfl, ho0, hb⟩; refine ⟨_, rfl, ?_⟩; have n0_ := am_ (Kd.R_elder' (ro_ HO1005) (Kd.R_base ho0) hb); have n1_ := am_ (Kd.R_below (ro_ HO1008) hb); have n2_ := am_ (Kd.R_lower (Kd.R_new' ho0 (Kd.R_lt (ro_ HO1005))) (below_size bl_)); have n3_ := am_ (below_step bl_ hb); clear HO1005; clear HO1008; clear HB; have HO1005 := n0_; have HO1008 := n1_; have HO1011 := n2_; have HB := n3_; clear n0_ n1_ n2_ n3_; (try clear hb); (try clear hb2); (try clear hk); (try clear hi); (try clear ho0)) | ((with_reducible refine gate_callee (f := 21) rfl ?_); refine goesL_ (some 30) rfl rfl Try.func21 (by kernel_rfl) rfl #[.slice A0 l0.length c0] rfl ag_ ?_; (with_reducible refine (laws_toLabelS.calls k _ _ l0 t1012 _ ?side1 ?side2 A12.out).mono ?_); (case side1 => exact cc_ (Kd.C_below HR0.out HB.out)); (case side2 => exact HC0.out); rintro e w32 ⟨v1013, rfl, ho0, hb⟩; refine ⟨_, rfl, ?_⟩; have n0_ := am_ (Kd.R_elder' (ro_ HO1005) (Kd.R_base ho0) hb); have n1_ := am_ (Kd.R_below (ro_ HO1008) hb); have n2_ := am_ (Kd.R_elder' (ro_ HO1011) (Kd.R_base ho0) hb); have n3_ := am_ (Kd.R_lower (Kd.R_new' (Kd.R_new' ho0 (Kd.R_lt (ro_ HO1005))) (Kd.R_lt (ro_ HO1011))) (below_size bl_)); have n4_ := am_ (below_step bl_ hb); clear HO1005; clear HO1008; clear HO1011; clear HB; have HO1005 := n0_; have HO1008 := n1_; have HO1011 := n2_; have HO1014 := n3_; have HB := n4_; clear n0_ n1_ n2_ n3_ n4_; (try clear hb); (try clear hb2); (try clear hk); (try clear hi); (try clear ho0)) | ((with_reducible refine gate_callee (f := 30) rfl ?_); refine goesL_ (some 32) rfl rfl Try.func30 (by kernel_rfl) rfl #[.slice A1 l1.length c1] rfl ag_ ?_; (with_reducible refine (laws_toStringS.calls k _ _ l1 t1015 _ ?side1 ?side2 A13.out).mono ?_); (case side1 => exact cc_ (Kd.C_below HR1.out HB.out)); (case side2 => exact HC1.out); rintro e w33 ⟨v1016, rfl, ho0, hb⟩; refine ⟨_, rfl, ?_⟩; have n0_ := am_ (Kd.R_below (ro_ HO1005) hb); have n1_ := am_ (Kd.R_elder' (ro_ HO1008) (Kd.R_base ho0) hb); have n2_ := am_ (Kd.R_below (ro_ HO1011) hb); have n3_ := am_ (Kd.R_below (ro_ HO1014) hb); have n4_ := am_ (Kd.R_lower (Kd.R_new' ho0 (Kd.R_lt (ro_ HO1008))) (below_size bl_)); have n5_ := am_ (below_step bl_ hb); clear HO1005; clear HO1008; clear HO1011; clear HO1014; clear HB; have HO1005 := n0_; have HO1008 := n1_; have HO1011 := n2_; have HO1014 := n3_; have HO1017 := n4_; have HB := n5_; clear n0_ n1_ n2_ n3_ n4_ n5_; (try clear hb); (try clear hb2); (try clear hk); (try clear hi); (try clear ho0); obtain ⟨Ao34, co34, eo34⟩ := Kd.R_slice HO1014.out; subst eo34; obtain ⟨Ao35, co35, eo35⟩ := Kd.R_slice HO1017.out; subst eo35) | ((with_reducible refine gate_callee (f := 31) rfl ?_); refine goesL_ (some 35) rfl rfl Try.func31 (by kernel_rfl) rfl #[.slice Ao34 t1012.length co34, .slice Ao35 t1015.length co35] rfl ag_ ?_; (with_reducible refine (impl_DropLabels.calls k _ _ t1012 _ _ t1015 t1018 _ ?side1 ?side2 ?side3 ?side4 A14.out).mono ?_); (case side1 => exact cc_ (Kd.R_reads' HO1014.out).2.2); (case side2 => exact (Kd.R_reads' HO1014.out).2.1); (case side3 => exact cc_ (Kd.R_reads' HO1017.out).2.2); (case side4 => exact (Kd.R_reads' HO1017.out).2.1); rintro e w36 ⟨v1019, rfl, ho0, hb⟩; refine ⟨_, rfl, ?_⟩; have n0_ := am_ (Kd.R_elder' (ro_ HO1005) (Kd.R_base ho0) hb); have n1_ := am_ (Kd.R_below (ro_ HO1008) hb); have n2_ := am_ (Kd.R_elder' (ro_ HO1011) (Kd.R_base ho0) hb); have n3_ := am_ (Kd.R_elder' (ro_ HO1014) (Kd.R_base ho0) hb); have n4_ := am_ (Kd.R_below (ro_ HO1017) hb); have n5_ := am_ (Kd.R_lower (Kd.R_new' (Kd.R_new' (Kd.R_new' ho0 (Kd.R_lt (ro_ HO1005))) (Kd.R_lt (ro_ HO1011))) (Kd.R_lt (ro_ HO1014))) (below_size bl_)); have n6_ := am_ (below_step bl_ hb); clear HO1005; clear HO1008; clear HO1011; clear HO1014; clear HO1017; clear HB; have HO1005 := n0_; have HO1008 := n1_; have HO1011 := n2_; have HO1014 := n3_; have HO1017 := n4_; have HO1020 := n5_; have HB := n6_; clear n0_ n1_ n2_ n3_ n4_ n5_ n6_; (try clear hb); (try clear hb2); (try clear hk); (try clear hi); (try clear ho0); obtain ⟨Ao37, co37, eo37⟩ := Kd.R_slice HO1020.out; subst eo37; obtain ⟨Ao38, co38, eo38⟩ := Kd.R_slice HO1011.out; subst eo38) | ((with_reducible refine gate_callee (f := 23) rfl ?_); refine goesL_ (some 38) rfl rfl Try.func23 (by kernel_rfl) rfl #[.slice Ao37 t1018.length co37, .slice Ao38 t1009.length co38] rfl ag_ ?_; (with_reducible refine (laws_eqLabelS.calls k _ _ t1018 _ _ t1009 true _ ?side1 ?side2 ?side3 ?side4 A15.out).mono ?_); (case side1 => exact cc_ (Kd.R_reads' HO1020.out).2.2); (case side2 => exact (Kd.R_reads' HO1020.out).2.1); (case side3 => exact cc_ (Kd.R_reads' HO1011.out).2.2); (case side4 => exact (Kd.R_reads' HO1011.out).2.1); rintro e w39 ⟨rfl, hb⟩; refine ⟨_, rfl, ?_⟩; have n0_ := am_ (Kd.R_below (ro_ HO1005) hb); have n1_ := am_ (Kd.R_below (ro_ HO1008) hb); have n2_ := am_ (Kd.R_below (ro_ HO1011) hb); have n3_ := am_ (Kd.R_below (ro_ HO1014) hb); have n4_ := am_ (Kd.R_below (ro_ HO1017) hb); have n5_ := am_ (Kd.R_below (ro_ HO1020) hb); have n6_ := am_ (below_step bl_ hb); clear HO1005; clear HO1008; clear HO1011; clear HO1014; clear HO1017; clear HO1020; clear HB; have HO1005 := n0_; have HO1008 := n1_; have HO1011 := n2_; have HO1014 := n3_; have HO1017 := n4_; have HO1020 := n5_; have HB := n6_; clear n0_ n1_ n2_ n3_ n4_ n5_ n6_; (try clear hb); (try clear hb2); (try clear hk); (try clear hi)) | ((with_reducible refine gate_callee (f := 21) rfl ?_); refine goesL_ (some 42) rfl rfl Try.func21 (by kernel_rfl) rfl #[.slice A0 l0.length c0] rfl ag_ ?_; (with_reducible refine (laws_toLabelS.calls k _ _ l0 t1022 _ ?side1 ?side2 A17.out).mono ?_); (case side1 => exact cc_ (Kd.C_below HR0.out HB.out)); (case side2 => exact HC0.out); rintro e w40 ⟨v1023, rfl, ho0, hb⟩; refine ⟨_, rfl, ?_⟩; have n0_ := am_ (Kd.R_elder' (ro_ HO1005) (Kd.R_base ho0) hb); have n1_ := am_ (Kd.R_below (ro_ HO1008) hb); have n2_ := am_ (Kd.R_elder' (ro_ HO1011) (Kd.R_base ho0) hb); have n3_ := am_ (Kd.R_elder' (ro_ HO1014) (Kd.R_base ho0) hb); have n4_ := am_ (Kd.R_below (ro_ HO1017) hb); have n5_ := am_ (Kd.R_elder' (ro_ HO1020) (Kd.R_base ho0) hb); have n6_ := am_ (Kd.R_lower (Kd.R_new' (Kd.R_new' (Kd.R_new' (Kd.R_new' ho0 (Kd.R_lt (ro_ HO1005))) (Kd.R_lt (ro_ HO1011))) (Kd.R_lt (ro_ HO1014))) (Kd.R_lt (ro_ HO1020))) (below_size bl_)); have n7_ := am_ (below_step bl_ hb); clear HO1005; clear HO1008; clear HO1011; clear HO1014; clear HO1017; clear HO1020; clear HB; have HO1005 := n0_; have HO1008 := n1_; have HO1011 := n2_; have HO1014 := n3_; have HO1017 := n4_; have HO1020 := n5_; have HO1024 := n6_; have HB := n7_; clear n0_ n1_ n2_ n3_ n4_ n5_ n6_ n7_; (try clear hb); (try clear hb2); (try clear hk); (try clear hi); (try clear ho0); obtain ⟨Ao41, co41, eo41⟩ := Kd.R_slice HO1024.out; subst eo41) | ((with_reducible refine gate_callee (f := 23) rfl ?_); refine goesL_ (some 43) rfl rfl Try.func23 (by kernel_rfl) rfl #[.slice Ao34 t1012.length co34, .slice Ao41 t1022.length co41] rfl ag_ ?_; (with_reducible refine (laws_eqLabelS.calls k _ _ t1012 _ _ t1022 true _ ?side1 ?side2 ?side3 ?side4 A18.out).mono ?_); (case side1 => exact cc_ (Kd.R_reads' HO1014.out).2.2); (case side2 => exact (Kd.R_reads' HO1014.out).2.1); (case side3 => exact cc_ (Kd.R_reads' HO1024.out).2.2); (case side4 => exact (Kd.R_reads' HO1024.out).2.1); rintro e w42 ⟨rfl, hb⟩; refine ⟨_, rfl, ?_⟩; have n0_ := am_ (Kd.R_below (ro_ HO1005) hb); have n1_ := am_ (Kd.R_below (ro_ HO1008) hb); have n2_ := am_ (Kd.R_below (ro_ HO1011) hb); have n3_ := am_ (Kd.R_below (ro_ HO1014) hb); have n4_ := am_ (Kd.R_below (ro_ HO1017) hb); have n5_ := am_ (Kd.R_below (ro_ HO1020) hb); have n6_ := am_ (Kd.R_below (ro_ HO1024) hb); have n7_ := am_ (below_step bl_ hb); clear HO1005; clear HO1008; clear HO1011; clear HO1014; clear HO1017; clear HO1020; clear HO1024; clear HB; have HO1005 := n0_; have HO1008 := n1_; have HO1011 := n2_; have HO1014 := n3_; have HO1017 := n4_; have HO1020 := n5_; have HO1024 := n6_; have HB := n7_; clear n0_ n1_ n2_ n3_ n4_ n5_ n6_ n7_; (try clear hb); (try clear hb2); (try clear hk); (try clear hi)) | ((with_reducible refine gate_callee (f := 30) rfl ?_); refine goesL_ (some 47) rfl rfl Try.func30 (by kernel_rfl) rfl #[.slice A1 l1.length c1] rfl ag_ ?_; (with_reducible refine (laws_toStringS.calls k _ _ l1 t1026 _ ?side1 ?side2 A20.out).mono ?_); (case side1 => exact cc_ (Kd.C_below HR1.out HB.out)); (case side2 => exact HC1.out); rintro e w43 ⟨v1027, rfl, ho0, hb⟩; refine ⟨_, rfl, ?_⟩; have n0_ := am_ (Kd.R_below (ro_ HO1005) hb); have n1_ := am_ (Kd.R_elder' (ro_ HO1008) (Kd.R_base ho0) hb); have n2_ := am_ (Kd.R_below (ro_ HO1011) hb); have n3_ := am_ (Kd.R_below (ro_ HO1014) hb); have n4_ := am_ (Kd.R_elder' (ro_ HO1017) (Kd.R_base ho0) hb); have n5_ := am_ (Kd.R_below (ro_ HO1020) hb); have n6_ := am_ (Kd.R_below (ro_ HO1024) hb); have n7_ := am_ (Kd.R_lower (Kd.R_new' (Kd.R_new' ho0 (Kd.R_lt (ro_ HO1008))) (Kd.R_lt (ro_ HO1017))) (below_size bl_)); have n8_ := am_ (below_step bl_ hb); clear HO1005; clear HO1008; clear HO1011; clear HO1014; clear HO1017; clear HO1020; clear HO1024; clear HB; have HO1005 := n0_; have HO1008 := n1_; have HO1011 := n2_; have HO1014 := n3_; have HO1017 := n4_; have HO1020 := n5_; have HO1024 := n6_; have HO1028 := n7_; have HB := n8_; clear n0_ n1_ n2_ n3_ n4_ n5_ n6_ n7_ n8_; (try clear hb); (try clear hb2); (try clear hk); (try clear hi); (try clear ho0); obtain ⟨Ao44, co44, eo44⟩ := Kd.R_slice HO1028.out; subst eo44) | ((with_reducible refine gate_callee (f := 16) rfl ?_); refine goesL_ (some 48) rfl rfl Try.func16 (by kernel_rfl) rfl #[.slice Ao35 t1015.length co35, .slice Ao44 t1026.length co44] rfl ag_ ?_; (with_reducible refine (laws_eqStringS.calls k _ _ t1015 _ _ t1026 true _ ?side1 ?side2 ?side3 ?side4 A21.out).mono ?_); (case side1 => exact cc_ (Kd.R_reads' HO1017.out).2.2); (case side2 => exact (Kd.R_reads' HO1017.out).2.1); (case side3 => exact cc_ (Kd.R_reads' HO1028.out).2.2); (case side4 => exact (Kd.R_reads' HO1028.out).2.1); rintro e w' ⟨rfl, ⟨nd, rfl⟩⟩; refine ⟨_, rfl, ?_⟩) | ((with_reducible refine gate_callee (f := 24) rfl ?_); refine goesL_ (some 52) rfl rfl Try.func24 (by kernel_rfl) rfl #[.slice Ao34 t1012.length co34, .int .i64 1] rfl ag_ ?_; (with_reducible refine (laws_markLabelS.calls k (fun k_ => some k_ = (.slice Ao34 t1012.length co34 : Value).ownBlock) (.slice Ao34 t1012.length co34) t1012 1 t1030 t1031 w _ ?side1 ?side2 A23.out).mono ?_); (case side1 => repeat (first | (with_reducible first | exact HB.out | apply below_alloc | apply pw_below_drewN | apply below_drew1) | exact HB.out)); (case side2 => exact Kd.R_tight rfl HO1014.out); rintro e w45 ⟨rfl, hy0, hb, hkp⟩; refine ⟨_, rfl, ?_⟩; have n0_ := am_ (Kd.R_mono (ok' := fun k_ => some k_ ≠ (.slice Ao38 t1009.length co38 : Value).ownBlock ∧ some k_ ≠ (.slice Ao34 t1012.length co34 : Value).ownBlock ∧ some k_ ≠ (.slice Ao37 t1018.length co37 : Value).ownBlock ∧ some k_ ≠ (.slice Ao41 t1022.length co41 : Value).ownBlock) (Kd.R_keptB (HO1005.out) hkp (fun k_ hk_ hs_ => (hk_.1.1.2) hs_)) (fun k_ hk_ => ⟨hk_.1.1.1.1.2, hk_.1.1.1.2, hk_.1.1.2, hk_.1.2⟩)); have n1_ := am_ (Kd.R_mono (ok' := fun k_ => some k_ ≠ (.slice Ao35 t1015.length co35 : Value).ownBlock ∧ some k_ ≠ (.slice Ao44 t1026.length co44 : Value).ownBlock) (Kd.R_keptB ((Kd.R_apart' HO1008.out (Kd.R_typed HO1014.out) (by decide))) hkp (fun k_ hk_ hs_ => (hk_.2) hs_)) (fun k_ hk_ => ⟨hk_.1.1.1.2, hk_.1.1.2⟩)); have n2_ := am_ (Kd.R_mono (ok' := fun k_ => some k_ ≠ (.slice Ao29 t1003.length co29 : Value).ownBlock ∧ some k_ ≠ (.slice Ao34 t1012.length co34 : Value).ownBlock ∧ some k_ ≠ (.slice Ao37 t1018.length co37 : Value).ownBlock ∧ some k_ ≠ (.slice Ao41 t1022.length co41 : Value).ownBlock) (Kd.R_keptB (HO1011.out) hkp (fun k_ hk_ hs_ => (hk_.1.1.2) hs_)) (fun k_ hk_ => ⟨hk_.1.1.1.1.2, hk_.1.1.1.2, hk_.1.1.2, hk_.1.2⟩)); have n3_ := am_ (Kd.R_reok rfl hy0 (fun k_ e_ => HO1014.out.1 k_ e_)); have n4_ := am_ (Kd.R_mono (ok' := fun k_ => some k_ ≠ (.slice Ao30 t1006.length co30 : Value).ownBlock ∧ some k_ ≠ (.slice Ao44 t1026.length co44 : Value).ownBlock) (Kd.R_keptB ((Kd.R_apart' HO1017.out (Kd.R_typed HO1014.out) (by decide))) hkp (fun k_ hk_ hs_ => (hk_.2) hs_)) (fun k_ hk_ => ⟨hk_.1.1.1.2, hk_.1.1.2⟩)); have n5_ := am_ (Kd.R_mono (ok' := fun k_ => some k_ ≠ (.slice Ao29 t1003.length co29 : Value).ownBlock ∧ some k_ ≠ (.slice Ao38 t1009.length co38 : Value).ownBlock ∧ some k_ ≠ (.slice Ao34 t1012.length co34 : Value).ownBlock ∧ some k_ ≠ (.slice Ao41 t1022.length co41 : Value).ownBlock) (Kd.R_keptB (HO1020.out) hkp (fun k_ hk_ hs_ => (hk_.1.2) hs_)) (fun k_ hk_ => ⟨hk_.1.1.1.1.2, hk_.1.1.1.2, hk_.1.1.2, hk_.1.2⟩)); have n6_ := am_ (Kd.R_mono (ok' := fun k_ => some k_ ≠ (.slice Ao29 t1003.length co29 : Value).ownBlock ∧ some k_ ≠ (.slice Ao38 t1009.length co38 : Value).ownBlock ∧ some k_ ≠ (.slice Ao34 t1012.length co34 : Value).ownBlock ∧ some k_ ≠ (.slice Ao37 t1018.length co37 : Value).ownBlock) (Kd.R_keptB (HO1024.out) hkp (fun k_ hk_ hs_ => (hk_.1.2) hs_)) (fun k_ hk_ => ⟨hk_.1.1.1.1.2, hk_.1.1.1.2, hk_.1.1.2, hk_.1.2⟩)); have n7_ := am_ (Kd.R_mono (ok' := fun k_ => some k_ ≠ (.slice Ao30 t1006.length co30 : Value).ownBlock ∧ some k_ ≠ (.slice Ao35 t1015.length co35 : Value).ownBlock) (Kd.R_keptB ((Kd.R_apart' HO1028.out (Kd.R_typed HO1014.out) (by decide))) hkp (fun k_ hk_ hs_ => (hk_.2) hs_)) (fun k_ hk_ => ⟨hk_.1.1.1.2, hk_.1.1.2⟩)); have n8_ := am_ (hb); clear HO1005; clear HO1008; clear HO1011; clear HO1014; clear HO1017; clear HO1020; clear HO1024; clear HO1028; clear HB; have HO1005 := n0_; have HO1008 := n1_; have HO1011 := n2_; have HO1014 := n3_; have HO1017 := n4_; have HO1020 := n5_; have HO1024 := n6_; have HO1028 := n7_; have HB := n8_; clear n0_ n1_ n2_ n3_ n4_ n5_ n6_ n7_ n8_; (try clear hb); (try clear hkp); (try clear hy0)) | ((with_reducible refine gate_callee (f := 17) rfl ?_); refine goesL_ (some 55) rfl rfl Try.func17 (by kernel_rfl) rfl #[.slice Ao35 t1015.length co35, .int .i64 t1030] rfl ag_ ?_; (with_reducible refine (laws_markStringS.calls k (fun k_ => some k_ = (.slice Ao35 t1015.length co35 : Value).ownBlock) (.slice Ao35 t1015.length co35) t1015 t1030 t1032 t1033 w _ ?side1 ?side2 A24.out).mono ?_); (case side1 => repeat (first | (with_reducible first | exact HB.out | apply below_alloc | apply pw_below_drewN | apply below_drew1) | exact HB.out)); (case side2 => exact Kd.R_tight rfl HO1017.out); rintro e w46 ⟨rfl, hy0, hb, hkp⟩; refine ⟨_, rfl, ?_⟩; have n0_ := am_ (Kd.R_mono (ok' := fun k_ => some k_ ≠ (.slice Ao38 t1009.length co38 : Value).ownBlock ∧ some k_ ≠ (.slice Ao34 t1012.length co34 : Value).ownBlock ∧ some k_ ≠ (.slice Ao37 t1018.length co37 : Value).ownBlock ∧ some k_ ≠ (.slice Ao41 t1022.length co41 : Value).ownBlock) (Kd.R_keptB ((Kd.R_apart' HO1005.out (Kd.R_typed HO1017.out) (by decide))) hkp (fun k_ hk_ hs_ => (hk_.2) hs_)) (fun k_ hk_ => ⟨hk_.1.1.1, hk_.1.1.2.1, hk_.1.1.2.2.1, hk_.1.1.2.2.2⟩)); have n1_ := am_ (Kd.R_mono (ok' := fun k_ => some k_ ≠ (.slice Ao35 t1015.length co35 : Value).ownBlock ∧ some k_ ≠ (.slice Ao44 t1026.length co44 : Value).ownBlock) (Kd.R_keptB (HO1008.out) hkp (fun k_ hk_ hs_ => (hk_.1) hs_)) (fun k_ hk_ => ⟨hk_.1.1, hk_.1.2⟩)); have n2_ := am_ (Kd.R_mono (ok' := fun k_ => some k_ ≠ (.slice Ao29 t1003.length co29 : Value).ownBlock ∧ some k_ ≠ (.slice Ao34 t1012.length co34 : Value).ownBlock ∧ some k_ ≠ (.slice Ao37 t1018.length co37 : Value).ownBlock ∧ some k_ ≠ (.slice Ao41 t1022.length co41 : Value).ownBlock) (Kd.R_keptB ((Kd.R_apart' HO1011.out (Kd.R_typed HO1017.out) (by decide))) hkp (fun k_ hk_ hs_ => (hk_.2) hs_)) (fun k_ hk_ => ⟨hk_.1.1.1, hk_.1.1.2.1, hk_.1.1.2.2.1, hk_.1.1.2.2.2⟩)); have n3_ := am_ (Kd.R_mono (ok' := fun k_ => some k_ ≠ (.slice Ao29 t1003.length co29 : Value).ownBlock ∧ some k_ ≠ (.slice Ao38 t1009.length co38 : Value).ownBlock ∧ some k_ ≠ (.slice Ao37 t1018.length co37 : Value).ownBlock ∧ some k_ ≠ (.slice Ao41 t1022.length co41 : Value).ownBlock) (Kd.R_keptB ((Kd.R_apart' HO1014.out (Kd.R_typed HO1017.out) (by decide))) hkp (fun k_ hk_ hs_ => (hk_.2) hs_)) (fun k_ hk_ => ⟨hk_.1.1.1.1.1.2, hk_.1.1.1.1.2, hk_.1.1.1.2, hk_.1.1.2⟩)); have n4_ := am_ (Kd.R_reok rfl hy0 (fun k_ e_ => HO1017.out.1 k_ e_)); have n5_ := am_ (Kd.R_mono (ok' := fun k_ => some k_ ≠ (.slice Ao29 t1003.length co29 : Value).ownBlock ∧ some k_ ≠ (.slice Ao38 t1009.length co38 : Value).ownBlock ∧ some k_ ≠ (.slice Ao34 t1012.length co34 : Value).ownBlock ∧ some k_ ≠ (.slice Ao41 t1022.length co41 : Value).ownBlock) (Kd.R_keptB ((Kd.R_apart' HO1020.out (Kd.R_typed HO1017.out) (by decide))) hkp (fun k_ hk_ hs_ => (hk_.2) hs_)) (fun k_ hk_ => ⟨hk_.1.1.1, hk_.1.1.2.1, hk_.1.1.2.2.1, hk_.1.1.2.2.2⟩)); have n6_ := am_ (Kd.R_mono (ok' := fun k_ => some k_ ≠ (.slice Ao29 t1003.length co29 : Value).ownBlock ∧ some k_ ≠ (.slice Ao38 t1009.length co38 : Value).ownBlock ∧ some k_ ≠ (.slice Ao34 t1012.length co34 : Value).ownBlock ∧ some k_ ≠ (.slice Ao37 t1018.length co37 : Value).ownBlock) (Kd.R_keptB ((Kd.R_apart' HO1024.out (Kd.R_typed HO1017.out) (by decide))) hkp (fun k_ hk_ hs_ => (hk_.2) hs_)) (fun k_ hk_ => ⟨hk_.1.1.1, hk_.1.1.2.1, hk_.1.1.2.2.1, hk_.1.1.2.2.2⟩)); have n7_ := am_ (Kd.R_mono (ok' := fun k_ => some k_ ≠ (.slice Ao30 t1006.length co30 : Value).ownBlock ∧ some k_ ≠ (.slice Ao35 t1015.length co35 : Value).ownBlock) (Kd.R_keptB (HO1028.out) hkp (fun k_ hk_ hs_ => (hk_.2) hs_)) (fun k_ hk_ => ⟨hk_.1.1, hk_.1.2⟩)); have n8_ := am_ (hb); clear HO1005; clear HO1008; clear HO1011; clear HO1014; clear HO1017; clear HO1020; clear HO1024; clear HO1028; clear HB; have HO1005 := n0_; have HO1008 := n1_; have HO1011 := n2_; have HO1014 := n3_; have HO1017 := n4_; have HO1020 := n5_; have HO1024 := n6_; have HO1028 := n7_; have HB := n8_; clear n0_ n1_ n2_ n3_ n4_ n5_ n6_ n7_ n8_; (try clear hb); (try clear hkp); (try clear hy0)))
      (try simp only [Act.put, List.setIfInBounds_toArray, List.set_cons_zero, List.set_cons_succ])
      go_cut [63] (fun v63 wc => ∃ (kq : Nat) (x63_24 : Bool), v63 = .bool x63_24 ∧ Aside0 (laws_FnExactDropLabels.j0 kq l0 l1 t1009 t1018 x63_24 = some r) ∧ Aside0 (kq ≤ k) ∧ Aside0 (Kd.R k86 86 wc w.heap.size (fun k_ => some k_ ≠ ((.slice Ao37 t1018.length co37) : Value).ownBlock) (.slice Ao38 t1009.length co38) t1009) ∧ Aside0 (Kd.R k86 86 wc w.heap.size (fun k_ => some k_ ≠ ((.slice Ao38 t1009.length co38) : Value).ownBlock) (.slice Ao37 t1018.length co37) t1018) ∧ Aside0 (Below w.heap.size w wc))
      case first =>
       have H := HC25.out
       clear HC25
       by_cases c47 : t1032 < 0
       ·rw [if_pos c47] at H
        have c47b0 : decide (t1032 < 0) = true := decide_eq_true c47
        clear c47
        (first | rw [c47b0] | (simp only [i64_w, i32_w]; rw [c47b0]) | skip)
        have H' := am_ H
        clear H
        go_wp2
        go_meet
        case rel => exact ⟨_, (true), rs_, H', ⟨by first | omega | exact Nat.le_refl _⟩, ⟨by (with_reducible repeat (first | apply Kd.R_alloc | apply Kd.R_drewN | apply Kd.R_drew)); exact Kd.R_mono HO1011.out (fun _ hk => hk.2.2.1)⟩, ⟨by (with_reducible repeat (first | apply Kd.R_alloc | apply Kd.R_drewN | apply Kd.R_drew)); exact Kd.R_mono HO1020.out (fun _ hk => hk.2.1)⟩, ⟨bl_⟩⟩
       ·rw [if_neg c47] at H
        have c47b0 : decide (t1032 < 0) = false := decide_eq_false c47
        clear c47
        (first | rw [c47b0] | (simp only [i64_w, i32_w]; rw [c47b0]) | skip)
        replace H := Option.bind_eq_some_iff.mp H
        obtain ⟨t1034, A480, H⟩ := H
        replace H : (laws_FnExactDropLabels.j0 k l0 l1 t1009 t1018 (!t1034)) = some r := H
        have A48 := am_ A480
        clear A480
        have H' := am_ H
        clear H
        go_wp2_with (first | (go_at_call 23; (with_reducible refine (laws_eqLabelS.calls k _ _ t1018 _ _ t1009 t1034 _ ?side1 ?side2 ?side3 ?side4 A48.out).mono ?_); (case side1 => exact cc_ (Kd.R_reads' HO1020.out).2.2); (case side2 => exact (Kd.R_reads' HO1020.out).2.1); (case side3 => exact cc_ (Kd.R_reads' HO1011.out).2.2); (case side4 => exact (Kd.R_reads' HO1011.out).2.1); rintro e w49 ⟨rfl, hb⟩; have n0_ := am_ (Kd.R_below (ro_ HO1005) hb); have n1_ := am_ (Kd.R_below (ro_ HO1008) hb); have n2_ := am_ (Kd.R_below (ro_ HO1011) hb); have n3_ := am_ (Kd.R_below (ro_ HO1014) hb); have n4_ := am_ (Kd.R_below (ro_ HO1017) hb); have n5_ := am_ (Kd.R_below (ro_ HO1020) hb); have n6_ := am_ (Kd.R_below (ro_ HO1024) hb); have n7_ := am_ (Kd.R_below (ro_ HO1028) hb); have n8_ := am_ (below_step bl_ hb); clear HO1005; clear HO1008; clear HO1011; clear HO1014; clear HO1017; clear HO1020; clear HO1024; clear HO1028; clear HB; have HO1005 := n0_; have HO1008 := n1_; have HO1011 := n2_; have HO1014 := n3_; have HO1017 := n4_; have HO1020 := n5_; have HO1024 := n6_; have HO1028 := n7_; have HB := n8_; clear n0_ n1_ n2_ n3_ n4_ n5_ n6_ n7_ n8_; (try clear hb); (try clear hb2); (try clear hk); (try clear hi)))
        go_meet
        case rel => exact ⟨_, (!t1034), rs_, H', ⟨by first | omega | exact Nat.le_refl _⟩, ⟨by (with_reducible repeat (first | apply Kd.R_alloc | apply Kd.R_drewN | apply Kd.R_drew)); exact Kd.R_mono HO1011.out (fun _ hk => hk.2.2.1)⟩, ⟨by (with_reducible repeat (first | apply Kd.R_alloc | apply Kd.R_drewN | apply Kd.R_drew)); exact Kd.R_mono HO1020.out (fun _ hk => hk.2.1)⟩, ⟨bl_⟩⟩
      case rest =>
       clear HC25
       try clear c1
       try clear c2
       try clear p2
       try clear c3
       try clear c4
       try clear c4b0
       try clear c6
       try clear c7
       try clear c7b0
       try clear c16
       try clear c17
       try clear c19
       try clear c21
       try clear c22
       try clear c23
       try clear c24
       try clear c28
       try clear c29
       try clear c30
       try clear c31
       try clear c47
       try clear c47b0
       obtain ⟨kq, x63_24, rfl, HA, HJ24, HO_6, HO_9, HB⟩ := hcut
       cases kq with
       | zero => exact absurd HA.out (by simp [laws_FnExactDropLabels.j0])
       | succ kj24 =>
        have H := HA.out
        clear HA
        simp only [laws_FnExactDropLabels.j0] at H
        by_cases c50 : x63_24 = true
        ·subst c50
         have H1 : (none) = some r := by rw [if_pos rfl] at H; exact H
         clear H
         have H := H1
         clear H1
         exact absurd H (by simp)
        ·replace c50 := Bool.eq_false_iff.mpr c50
         subst c50
         have H1 : ((laws_markLabelS.f kj24 t1018 1).bind fun bt1035 => ((laws_heldLabelS.f kj24 bt1035.2 1).bind fun t1037 => (if t1037 < 0 then (none) else (if t1037 = bt1035.1 then ((laws_toLabelS.f kj24 l0).bind fun t1038 => ((laws_toStringS.f kj24 l1).bind fun t1041 => ((impl_DropLabels.f kj24 t1038 t1041).bind fun t1044 => ((laws_eqLabelS.f kj24 t1044 t1009).bind fun t1047 => (if t1047 = true then ((laws_heldLabelS.f kj24 bt1035.2 1).bind fun t1048 => (if t1048 < 0 then (none) else (if t1048 = bt1035.1 then (some true) else (none)))) else (none)))))) else (none))))) = some r := by rw [if_neg (show ¬ (false = true) by decide)] at H; exact H
         clear H
         have H := H1
         clear H1
         replace H := Option.bind_eq_some_iff.mp H
         obtain ⟨⟨t1035, t1036⟩, A510, H⟩ := H
         replace H : ((laws_heldLabelS.f kj24 t1036 1).bind fun t1037 => (if t1037 < 0 then (none) else (if t1037 = t1035 then ((laws_toLabelS.f kj24 l0).bind fun t1038 => ((laws_toStringS.f kj24 l1).bind fun t1041 => ((impl_DropLabels.f kj24 t1038 t1041).bind fun t1044 => ((laws_eqLabelS.f kj24 t1044 t1009).bind fun t1047 => (if t1047 = true then ((laws_heldLabelS.f kj24 t1036 1).bind fun t1048 => (if t1048 < 0 then (none) else (if t1048 = t1035 then (some true) else (none)))) else (none)))))) else (none)))) = some r := H
         have A51 := am_ A510
         clear A510
         replace H := Option.bind_eq_some_iff.mp H
         obtain ⟨t1037, A520, H⟩ := H
         replace H : (if t1037 < 0 then (none) else (if t1037 = t1035 then ((laws_toLabelS.f kj24 l0).bind fun t1038 => ((laws_toStringS.f kj24 l1).bind fun t1041 => ((impl_DropLabels.f kj24 t1038 t1041).bind fun t1044 => ((laws_eqLabelS.f kj24 t1044 t1009).bind fun t1047 => (if t1047 = true then ((laws_heldLabelS.f kj24 t1036 1).bind fun t1048 => (if t1048 < 0 then (none) else (if t1048 = t1035 then (some true) else (none)))) else (none)))))) else (none))) = some r := H
         have A52 := am_ A520
         clear A520
         by_cases c53 : t1037 < 0
         ·rw [if_pos c53] at H
          exact absurd H (by simp)
         ·rw [if_neg c53] at H
          have c53b0 : decide (t1037 < 0) = false := decide_eq_false c53
          clear c53
          by_cases c54 : t1037 = t1035
          ·rw [if_pos c54] at H
           have c54b0 : (t1037 == t1035) = true := beq_iff_eq.mpr c54
           have c54b1 : (t1037 != t1035) = false := bne_eq_false_iff_eq.mpr c54
           clear c54
           replace H := Option.bind_eq_some_iff.mp H
           obtain ⟨t1038, A550, H⟩ := H
           replace H : ((laws_toStringS.f kj24 l1).bind fun t1041 => ((impl_DropLabels.f kj24 t1038 t1041).bind fun t1044 => ((laws_eqLabelS.f kj24 t1044 t1009).bind fun t1047 => (if t1047 = true then ((laws_heldLabelS.f kj24 t1036 1).bind fun t1048 => (if t1048 < 0 then (none) else (if t1048 = t1035 then (some true) else (none)))) else (none))))) = some r := H
           have A55 := am_ A550
           clear A550
           replace H := Option.bind_eq_some_iff.mp H
           obtain ⟨t1041, A560, H⟩ := H
           replace H : ((impl_DropLabels.f kj24 t1038 t1041).bind fun t1044 => ((laws_eqLabelS.f kj24 t1044 t1009).bind fun t1047 => (if t1047 = true then ((laws_heldLabelS.f kj24 t1036 1).bind fun t1048 => (if t1048 < 0 then (none) else (if t1048 = t1035 then (some true) else (none)))) else (none)))) = some r := H
           have A56 := am_ A560
           clear A560
           replace H := Option.bind_eq_some_iff.mp H
           obtain ⟨t1044, A570, H⟩ := H
           replace H : ((laws_eqLabelS.f kj24 t1044 t1009).bind fun t1047 => (if t1047 = true then ((laws_heldLabelS.f kj24 t1036 1).bind fun t1048 => (if t1048 < 0 then (none) else (if t1048 = t1035 then (some true) else (none)))) else (none))) = some r := H
           have A57 := am_ A570
           clear A570
           replace H := Option.bind_eq_some_iff.mp H
           obtain ⟨t1047, A580, H⟩ := H
           replace H : (if t1047 = true then ((laws_heldLabelS.f kj24 t1036 1).bind fun t1048 => (if t1048 < 0 then (none) else (if t1048 = t1035 then (some true) else (none)))) else (none)) = some r := H
           have A58 := am_ A580
           clear A580
           by_cases c59 : t1047 = true
           ·subst c59
            have H1 : ((laws_heldLabelS.f kj24 t1036 1).bind fun t1048 => (if t1048 < 0 then (none) else (if t1048 = t1035 then (some true) else (none)))) = some r := by rw [if_pos rfl] at H; exact H
            clear H
            have H := H1
            clear H1
            replace H := Option.bind_eq_some_iff.mp H
            obtain ⟨t1048, A600, H⟩ := H
            replace H : (if t1048 < 0 then (none) else (if t1048 = t1035 then (some true) else (none))) = some r := H
            have A60 := am_ A600
            clear A600
            by_cases c61 : t1048 < 0
            ·rw [if_pos c61] at H
             exact absurd H (by simp)
            ·rw [if_neg c61] at H
             have c61b0 : decide (t1048 < 0) = false := decide_eq_false c61
             clear c61
             by_cases c62 : t1048 = t1035
             ·rw [if_pos c62] at H
              have c62b0 : (t1048 == t1035) = true := beq_iff_eq.mpr c62
              have c62b1 : (t1048 != t1035) = false := bne_eq_false_iff_eq.mpr c62
              clear c62
              obtain rfl := Option.some.inj H
              go_wp2_with (first | ((with_reducible refine gate_callee (f := 24) rfl ?_); refine goesL_ (some 66) rfl rfl Try.func24 (by kernel_rfl) rfl #[.slice Ao37 t1018.length co37, .int .i64 1] rfl ag_ ?_; (with_reducible refine (laws_markLabelS.calls kj24 (fun k_ => some k_ = (.slice Ao37 t1018.length co37 : Value).ownBlock) (.slice Ao37 t1018.length co37) t1018 1 t1035 t1036 w _ ?side1 ?side2 A51.out).mono ?_); (case side1 => repeat (first | (with_reducible first | exact HB.out | apply below_alloc | apply pw_below_drewN | apply below_drew1) | exact HB.out)); (case side2 => exact Kd.R_tight rfl HO_9.out); rintro e w63 ⟨rfl, hy0, hb, hkp⟩; refine ⟨_, rfl, ?_⟩; have n0_ := am_ (Kd.R_mono (ok' := fun k_ => some k_ ≠ (.slice Ao37 t1018.length co37 : Value).ownBlock) (Kd.R_keptB (HO_6.out) hkp (fun k_ hk_ hs_ => (hk_) hs_)) (fun k_ hk_ => hk_.1)); have n1_ := am_ (Kd.R_reok rfl hy0 (fun k_ e_ => HO_9.out.1 k_ e_)); have n2_ := am_ (hb); clear HO_6; clear HO_9; clear HB; have HO_6 := n0_; have HO_9 := n1_; have HB := n2_; clear n0_ n1_ n2_; (try clear hb); (try clear hkp); (try clear hy0)) | ((with_reducible refine gate_callee (f := 25) rfl ?_); refine goesL_ (some 69) rfl rfl Try.func25 (by kernel_rfl) rfl #[.slice Ao37 t1036.length co37, .int .i64 1] rfl (by (try simp only [List.map_toArray, List.map_cons, List.map_nil]); first | done | (rw [show t1036.length = t1018.length from (Kd.R_reads' HO_9.out).1.symm] <;> rfl) | rfl | (simp only [List.length_drop, List.length_take]; rfl)) ?_; (with_reducible refine (laws_heldLabelS.calls kj24 _ _ t1036 1 t1037 _ ?side1 ?side2 A52.out).mono ?_); (case side1 => exact cc_ (Kd.R_reads' HO_9.out).2.2); (case side2 => rw [show t1036.length = t1018.length from (Kd.R_reads' HO_9.out).1.symm]; exact (Kd.R_reads' HO_9.out).2.1); rintro e w64 ⟨rfl, hb⟩; refine ⟨_, rfl, ?_⟩; have n0_ := am_ (Kd.R_below (ro_ HO_6) hb); have n1_ := am_ (Kd.R_below (ro_ HO_9) hb); have n2_ := am_ (below_step bl_ hb); clear HO_6; clear HO_9; clear HB; have HO_6 := n0_; have HO_9 := n1_; have HB := n2_; clear n0_ n1_ n2_; (try clear hb); (try clear hb2); (try clear hk); (try clear hi)) | ((with_reducible refine gate_callee (f := 21) rfl ?_); refine goesL_ (some 76) rfl rfl Try.func21 (by kernel_rfl) rfl #[.slice A0 l0.length c0] rfl ag_ ?_; (with_reducible refine (laws_toLabelS.calls kj24 _ _ l0 t1038 _ ?side1 ?side2 A55.out).mono ?_); (case side1 => exact cc_ (Kd.C_below HR0.out HB.out)); (case side2 => exact HC0.out); rintro e w65 ⟨v1039, rfl, ho0, hb⟩; refine ⟨_, rfl, ?_⟩; have n0_ := am_ (Kd.R_elder' (ro_ HO_6) (Kd.R_base ho0) hb); have n1_ := am_ (Kd.R_elder' (ro_ HO_9) (Kd.R_base ho0) hb); have n2_ := am_ (Kd.R_lower (Kd.R_new' (Kd.R_new' ho0 (Kd.R_lt (ro_ HO_6))) (Kd.R_lt (ro_ HO_9))) (below_size bl_)); have n3_ := am_ (below_step bl_ hb); clear HO_6; clear HO_9; clear HB; have HO_6 := n0_; have HO_9 := n1_; have HO1040 := n2_; have HB := n3_; clear n0_ n1_ n2_ n3_; (try clear hb); (try clear hb2); (try clear hk); (try clear hi); (try clear ho0)) | ((with_reducible refine gate_callee (f := 30) rfl ?_); refine goesL_ (some 78) rfl rfl Try.func30 (by kernel_rfl) rfl #[.slice A1 l1.length c1] rfl ag_ ?_; (with_reducible refine (laws_toStringS.calls kj24 _ _ l1 t1041 _ ?side1 ?side2 A56.out).mono ?_); (case side1 => exact cc_ (Kd.C_below HR1.out HB.out)); (case side2 => exact HC1.out); rintro e w66 ⟨v1042, rfl, ho0, hb⟩; refine ⟨_, rfl, ?_⟩; have n0_ := am_ (Kd.R_below (ro_ HO_6) hb); have n1_ := am_ (Kd.R_below (ro_ HO_9) hb); have n2_ := am_ (Kd.R_below (ro_ HO1040) hb); have n3_ := am_ (Kd.R_lower ho0 (below_size bl_)); have n4_ := am_ (below_step bl_ hb); clear HO_6; clear HO_9; clear HO1040; clear HB; have HO_6 := n0_; have HO_9 := n1_; have HO1040 := n2_; have HO1043 := n3_; have HB := n4_; clear n0_ n1_ n2_ n3_ n4_; (try clear hb); (try clear hb2); (try clear hk); (try clear hi); (try clear ho0); obtain ⟨Ao67, co67, eo67⟩ := Kd.R_slice HO1040.out; subst eo67; obtain ⟨Ao68, co68, eo68⟩ := Kd.R_slice HO1043.out; subst eo68) | ((with_reducible refine gate_callee (f := 31) rfl ?_); refine goesL_ (some 79) rfl rfl Try.func31 (by kernel_rfl) rfl #[.slice Ao67 t1038.length co67, .slice Ao68 t1041.length co68] rfl ag_ ?_; (with_reducible refine (impl_DropLabels.calls kj24 _ _ t1038 _ _ t1041 t1044 _ ?side1 ?side2 ?side3 ?side4 A57.out).mono ?_); (case side1 => exact cc_ (Kd.R_reads' HO1040.out).2.2); (case side2 => exact (Kd.R_reads' HO1040.out).2.1); (case side3 => exact cc_ (Kd.R_reads' HO1043.out).2.2); (case side4 => exact (Kd.R_reads' HO1043.out).2.1); rintro e w69 ⟨v1045, rfl, ho0, hb⟩; refine ⟨_, rfl, ?_⟩; have n0_ := am_ (Kd.R_elder' (ro_ HO_6) (Kd.R_base ho0) hb); have n1_ := am_ (Kd.R_elder' (ro_ HO_9) (Kd.R_base ho0) hb); have n2_ := am_ (Kd.R_elder' (ro_ HO1040) (Kd.R_base ho0) hb); have n3_ := am_ (Kd.R_below (ro_ HO1043) hb); have n4_ := am_ (Kd.R_lower (Kd.R_new' (Kd.R_new' (Kd.R_new' ho0 (Kd.R_lt (ro_ HO_6))) (Kd.R_lt (ro_ HO_9))) (Kd.R_lt (ro_ HO1040))) (below_size bl_)); have n5_ := am_ (below_step bl_ hb); clear HO_6; clear HO_9; clear HO1040; clear HO1043; clear HB; have HO_6 := n0_; have HO_9 := n1_; have HO1040 := n2_; have HO1043 := n3_; have HO1046 := n4_; have HB := n5_; clear n0_ n1_ n2_ n3_ n4_ n5_; (try clear hb); (try clear hb2); (try clear hk); (try clear hi); (try clear ho0); obtain ⟨Ao70, co70, eo70⟩ := Kd.R_slice HO1046.out; subst eo70) | ((with_reducible refine gate_callee (f := 23) rfl ?_); refine goesL_ (some 82) rfl rfl Try.func23 (by kernel_rfl) rfl #[.slice Ao70 t1044.length co70, .slice Ao38 t1009.length co38] rfl ag_ ?_; (with_reducible refine (laws_eqLabelS.calls kj24 _ _ t1044 _ _ t1009 true _ ?side1 ?side2 ?side3 ?side4 A58.out).mono ?_); (case side1 => exact cc_ (Kd.R_reads' HO1046.out).2.2); (case side2 => exact (Kd.R_reads' HO1046.out).2.1); (case side3 => exact cc_ (Kd.R_reads' HO_6.out).2.2); (case side4 => exact (Kd.R_reads' HO_6.out).2.1); rintro e w71 ⟨rfl, hb⟩; refine ⟨_, rfl, ?_⟩; have n0_ := am_ (Kd.R_below (ro_ HO_6) hb); have n1_ := am_ (Kd.R_below (ro_ HO_9) hb); have n2_ := am_ (Kd.R_below (ro_ HO1040) hb); have n3_ := am_ (Kd.R_below (ro_ HO1043) hb); have n4_ := am_ (Kd.R_below (ro_ HO1046) hb); have n5_ := am_ (below_step bl_ hb); clear HO_6; clear HO_9; clear HO1040; clear HO1043; clear HO1046; clear HB; have HO_6 := n0_; have HO_9 := n1_; have HO1040 := n2_; have HO1043 := n3_; have HO1046 := n4_; have HB := n5_; clear n0_ n1_ n2_ n3_ n4_ n5_; (try clear hb); (try clear hb2); (try clear hk); (try clear hi)) | ((with_reducible refine gate_callee (f := 25) rfl ?_); refine goesL_ (some 86) rfl rfl Try.func25 (by kernel_rfl) rfl #[.slice Ao37 t1036.length co37, .int .i64 1] rfl (by (try simp only [List.map_toArray, List.map_cons, List.map_nil]); first | done | (rw [show t1036.length = t1018.length from (Kd.R_reads' HO_9.out).1.symm] <;> rfl) | rfl | (simp only [List.length_drop, List.length_take]; rfl)) ?_; (with_reducible refine (laws_heldLabelS.calls kj24 _ _ t1036 1 t1048 _ ?side1 ?side2 A60.out).mono ?_); (case side1 => exact cc_ (Kd.R_reads' HO_9.out).2.2); (case side2 => rw [show t1036.length = t1018.length from (Kd.R_reads' HO_9.out).1.symm]; exact (Kd.R_reads' HO_9.out).2.1); rintro e w72 ⟨rfl, hb⟩; refine ⟨_, rfl, ?_⟩; have n0_ := am_ (Kd.R_below (ro_ HO_6) hb); have n1_ := am_ (Kd.R_below (ro_ HO_9) hb); have n2_ := am_ (Kd.R_below (ro_ HO1040) hb); have n3_ := am_ (Kd.R_below (ro_ HO1043) hb); have n4_ := am_ (Kd.R_below (ro_ HO1046) hb); have n5_ := am_ (below_step bl_ hb); clear HO_6; clear HO_9; clear HO1040; clear HO1043; clear HO1046; clear HB; have HO_6 := n0_; have HO_9 := n1_; have HO1040 := n2_; have HO1043 := n3_; have HO1046 := n4_; have HB := n5_; clear n0_ n1_ n2_ n3_ n4_ n5_; (try clear hb); (try clear hb2); (try clear hk); (try clear hi)))
              go_ret
              exact ⟨rf_, bl_⟩
             ·rw [if_neg c62] at H
              exact absurd H (by simp)
           ·replace c59 := Bool.eq_false_iff.mpr c59
            subst c59
            have H1 : (none) = some r := by rw [if_neg (show ¬ (false = true) by decide)] at H; exact H
            clear H
            have H := H1
            clear H1
            exact absurd H (by simp)
          ·rw [if_neg c54] at H
           exact absurd H (by simp)
     ·replace c22 := Bool.eq_false_iff.mpr c22
      subst c22
      have H1 : (none) = some r := by rw [if_neg (show ¬ (false = true) by decide)] at H; exact H
      clear H
      have H := H1
      clear H1
      exact absurd H (by simp)
    ·replace c19 := Bool.eq_false_iff.mpr c19
     subst c19
     have H1 : (none) = some r := by rw [if_neg (show ¬ (false = true) by decide)] at H; exact H
     clear H
     have H := H1
     clear H1
     exact absurd H (by simp)
   ·replace c16 := Bool.eq_false_iff.mpr c16
    subst c16
    have H1 : (none) = some r := by rw [if_neg (show ¬ (false = true) by decide)] at H; exact H
    clear H
    have H := H1
    clear H1
    exact absurd H (by simp)

end Go.Proofs.Ythgeohdpjedhnaa.Pr
