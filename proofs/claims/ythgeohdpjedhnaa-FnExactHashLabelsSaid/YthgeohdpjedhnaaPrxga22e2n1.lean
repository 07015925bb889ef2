/- Functions of the given program as plain Lean functions, and that the machine's calls come to them; written by a program of this session; no condition but those that each theorem states. -/
import Derived.Test.YthgeohdpjedhnaaPrx0
import Derived.Test.YthgeohdpjedhnaaPrxg0dd73n1
import Derived.Test.YthgeohdpjedhnaaPrxg5570bn1
import Derived.Test.YthgeohdpjedhnaaPrxg67d2fn1
import Derived.Test.YthgeohdpjedhnaaPrxg7e704n1
namespace Go.Proofs.Ythgeohdpjedhnaa.Pr
open Go.RowKit Go.Proofs.YthgeohdpjedhnaaW.PrintWords Go.Proofs.YthgeohdpjedhnaaW.PrintLast Go.Proofs.YthgeohdpjedhnaaW.PrintMore
attribute [local go_sem] max2_int min2_int max_two min_two max_three min_three max_four min_four   -- for this text's walks alone
set_option linter.unusedVariables false
set_option linter.unusedSimpArgs false

/-! ### spec_Mix: function 80 -/
def spec_Mix.l0 : Nat → Int → List Int → Int → Int → Option (Int)
 | 0, _, _, _, _ => none
 | k + 1, x3, x6, x7, x8 => if x8 < x7 then (if 0 ≤ x8 then (if x8 < (x6.length : Int) then (spec_Mix.l0 k (Go.bits .xor .u64 (IntKind.u64.wrap ((Go.bits .xor .u64 x3 (IntKind.u64.wrap (rd x6 x8))) * 1099511628211)) ((IntKind.u64.wrap ((Go.bits .xor .u64 x3 (IntKind.u64.wrap (rd x6 x8))) * 1099511628211)) / 536870912)) x6 x7 (wrap64 (x8 + 1))) else (none)) else (none)) else (some (wrap64 (IntKind.u64.wrap (Int.tdiv x3 2))))
def spec_Mix.f (k : Nat) (l0 : List Int) : Option (Int) := spec_Mix.l0 k 1469598103 l0 (l0.length : Int) 0
theorem spec_Mix.mono_l : ∀ k, (∀ y0 y1 y2 y3, LeO (spec_Mix.l0 k y0 y1 y2 y3) (spec_Mix.l0 (k + 1) y0 y1 y2 y3))
 | 0 => fun _ _ _ _ r h => by simp [spec_Mix.l0] at h
 | k + 1 => by
  have ih0 := spec_Mix.mono_l k
  ·intro y0 y1 y2 y3
   unfold spec_Mix.l0
   repeat' first
   | with_reducible first | exact ih0 _ _ _ _ | exact LeO.refl _ | exact LeO.none _ | refine LeO.ite ?_ ?_ | refine LeO.bind ?_ (fun _ => ?_)
   | exact ih0 _ _ _ _
   | exact LeO.none _
   | refine LeO.ite ?_ ?_
   | refine LeO.bind ?_ (fun _ => ?_)
theorem spec_Mix.mono : ∀ a0 k, LeO (spec_Mix.f k a0) (spec_Mix.f (k + 1) a0) := by
 intro a0 k
 have ih0 := spec_Mix.mono_l k
 unfold spec_Mix.f
 repeat' first
   | with_reducible first | exact ih0 _ _ _ _ | exact LeO.refl _ | exact LeO.none _ | refine LeO.ite ?_ ?_ | refine LeO.bind ?_ (fun _ => ?_)
   | exact ih0 _ _ _ _
   | exact LeO.none _
   | refine LeO.ite ?_ ?_
   | refine LeO.bind ?_ (fun _ => ?_)
set_option maxHeartbeats 8000000 in
set_option maxRecDepth 100000 in
theorem spec_Mix.calls (k : Nat) (A0 : Option Addr) (c0 : Nat) (l0 : List Int) (r : Int) (w : World) (hr0 : Kd.C (Kd.int .u8) w A0 l0.length l0) (hc0 : l0.length ≤ c0) (h : spec_Mix.f k l0 = some r) :
  Calls Try.prog 80 #[.slice A0 l0.length c0] w fun e w' => e = .returned (.int .i64 r) ∧ Drawn0 w w' := by
 have HR0 := am_ hr0
 have HC0 := am_ hc0
 clear hr0 hc0
 have H : (spec_Mix.l0 k 1469598103 l0 (l0.length : Int) 0) = some r := h
 clear h
 have H' := am_ H
 clear H
 go_enter Try.func80, Try.ntmps80
 go_wp2
 go_loopg [3, 8] k (fun kq v3 v8 w' => ∃ (x3_1 : Int) (x8_1 : Int), v3 = .int .u64 x3_1 ∧ v8 = .int .i64 x8_1 ∧ Aside0 (spec_Mix.l0 kq x3_1 l0 (l0.length : Int) x8_1 = some r) ∧ Aside0 (kq ≤ k) ∧ Drawn0 w w')
 case atStart => exact ⟨(1469598103), (0), rs_, rs_, H', ⟨Nat.le_refl _⟩, by repeat (first | exact Drawn0.refl _ | apply Drawn0.step)⟩
 case round =>
  clear H'
  obtain ⟨x3_1, x8_1, rfl, rfl, HA, HK1, ⟨m1, rfl⟩⟩ := hrel
  cases gk with
  | zero => exact absurd HA.out (by simp [spec_Mix.l0])
  | succ k1 =>
   have H := HA.out
   clear HA
   simp only [spec_Mix.l0] at H
   by_cases c2 : x8_1 < (l0.length : Int)
   ·rw [if_pos c2] at H
    have c2b0 : decide (x8_1 < (l0.length : Int)) = true := decide_eq_true c2
    clear c2
    by_cases c3 : 0 ≤ x8_1
    ·rw [if_pos c3] at H
     have c3b0 : decide (0 ≤ x8_1) = true := decide_eq_true c3
     clear c3
     by_cases c4 : x8_1 < (l0.length : Int)
     ·rw [if_pos c4] at H
      have c4b0 : decide (x8_1 < (l0.length : Int)) = true := decide_eq_true c4
      clear c4
      have H' := am_ H
      clear H
      have p1001 : 0 ≤ (x8_1 : Int) := od_
      have q1001 : x8_1 < (l0.length : Int) := od_
      obtain ⟨ad1001, e1001, hx1001_0⟩ := Kd.at_int HR0.out x8_1 p1001 q1001
      cases e1001
      replace p1001 := eq_true p1001
      replace q1001 := eq_true q1001
      go_wp2
      go_roundg k1
      case measure => have := HK1.out; omega
      case rel => exact ⟨(Go.bits .xor .u64 (IntKind.u64.wrap ((Go.bits .xor .u64 x3_1 (IntKind.u64.wrap (rd l0 x8_1))) * 1099511628211)) ((IntKind.u64.wrap ((Go.bits .xor .u64 x3_1 (IntKind.u64.wrap (rd l0 x8_1))) * 1099511628211)) / 536870912)), (wrap64 (x8_1 + 1)), rs_, rs_, H', ⟨by have := HK1.out; omega⟩, by repeat (first | exact Drawn0.refl _ | apply Drawn0.step)⟩
     ·rw [if_neg c4] at H
      exact absurd H (by simp)
    ·rw [if_neg c3] at H
     exact absurd H (by simp)
   ·rw [if_neg c2] at H
    have c2b0 : decide (x8_1 < (l0.length : Int)) = false := decide_eq_false c2
    clear c2
    obtain rfl := Option.some.inj H
    go_wp2
    go_ret
    exact ⟨by first | rfl | (simp; done) | (simp [*]; done), by repeat (first | exact Drawn0.refl _ | apply Drawn0.step)⟩

/-! ### spec_HashLabels: function 34 -/
def spec_HashLabels.f (k : Nat) (l0 : List (S86)) : Option (Int) := (spec_LabelsText.f k l0).bind fun t => if t.size ≤ 140737488355328 then spec_Mix.f k (bytesOf t) else none
theorem spec_HashLabels.mono : ∀ a0 k, LeO (spec_HashLabels.f k a0) (spec_HashLabels.f (k + 1) a0) := by
 intro a0 k
 unfold spec_HashLabels.f
 exact LeO.bind (spec_LabelsText.mono _ _) (fun _ => LeO.ite (spec_Mix.mono _ _) (LeO.none _))
set_option maxHeartbeats 4000000 in
theorem spec_HashLabels.calls (k : Nat) (A0 : Option Addr) (c0 : Nat) (l0 : List (S86)) (r : Int) (w : World) (hr0 : Kd.C k86 w A0 l0.length l0) (hc0 : l0.length ≤ c0) (h : spec_HashLabels.f k l0 = some r) :
  Calls Try.prog 34 #[.slice A0 l0.length c0] w fun e w' => e = .returned (.int .i64 r) ∧ Below w.heap.size w w' := by
 obtain ⟨t, h1, h⟩ := Option.bind_eq_some_iff.mp h
 split at h
 ·rename_i hl
  have kb := fun W => print_bytes (P := Try.prog) 9 93 5 Try.underlying9 Try.underlying93 Try.underlying5 t W
  have hlt := spec_LabelsText.calls k A0 c0 l0 t w hr0 hc0 h1
  have hmx : ∀ W : World, Calls Try.prog 80 #[.slice (some ⟨W.heap.size, 0, none⟩) t.size (grownCap W t.size 0 5)] (Lib.bytesWorld W 5 t) fun e w' => e = .returned (.int .i64 r) ∧ Drawn0 (Lib.bytesWorld W 5 t) w' := by
   intro W
   have hm := spec_Mix.calls k (some ⟨W.heap.size, 0, none⟩) (grownCap W t.size 0 5) (bytesOf t) r (Lib.bytesWorld W 5 t) (by rw [bytesOf_length]; exact Kd.C_of_reads (d := (0 : Int)) (h1 := fun _ => rfl) (bytes_reads W 5 t (by omega))) (by rw [bytesOf_length]; have := grownCap_ge W t.size 0 5; omega) h
   rw [bytesOf_length] at hm
   exact hm
  clear hr0 h1 h hl
  go_enter Try.func34, Try.ntmps34
  go_wp2_with (first
   | (go_at_call 26; refine hlt.mono ?_; rintro e w1 ⟨rfl, hb1⟩)
   | (go_at_call 80; refine (hmx w1).mono ?_; rintro e w2 ⟨rfl, ⟨nd, rfl⟩⟩))
  go_ret
  exact ⟨rfl, pw_below_drewN (bytes_below hb1 hb1.size 5 t) nd⟩
 ·cases h

/-! ### impl_Mix: function 81 -/
def impl_Mix.l0 : Nat → Int → List Int → Int → Int → Option (Int)
 | 0, _, _, _, _ => none
 | k + 1, x3, x6, x7, x8 => if x8 < x7 then (if 0 ≤ x8 then (if x8 < (x6.length : Int) then (impl_Mix.l0 k (Go.bits .xor .u64 (IntKind.u64.wrap ((Go.bits .xor .u64 x3 (IntKind.u64.wrap (rd x6 x8))) * 1099511628211)) ((IntKind.u64.wrap ((Go.bits .xor .u64 x3 (IntKind.u64.wrap (rd x6 x8))) * 1099511628211)) / 536870912)) x6 x7 (wrap64 (x8 + 1))) else (none)) else (none)) else (some (wrap64 (x3 / 2)))
def impl_Mix.f (k : Nat) (l0 : List Int) : Option (Int) := impl_Mix.l0 k 1469598103 l0 (l0.length : Int) 0
theorem impl_Mix.mono_l : ∀ k, (∀ y0 y1 y2 y3, LeO (impl_Mix.l0 k y0 y1 y2 y3) (impl_Mix.l0 (k + 1) y0 y1 y2 y3))
 | 0 => fun _ _ _ _ r h => by simp [impl_Mix.l0] at h
 | k + 1 => by
  have ih0 := impl_Mix.mono_l k
  ·intro y0 y1 y2 y3
   unfold impl_Mix.l0
   repeat' first
   | with_reducible first | exact ih0 _ _ _ _ | exact LeO.refl _ | exact LeO.none _ | refine LeO.ite ?_ ?_ | refine LeO.bind ?_ (fun _ => ?_)
   | exact ih0 _ _ _ _
   | exact LeO.none _
   | refine LeO.ite ?_ ?_
   | refine LeO.bind ?_ (fun _ => ?_)
theorem impl_Mix.mono : ∀ a0 k, LeO (impl_Mix.f k a0) (impl_Mix.f (k + 1) a0) := by
 intro a0 k
 have ih0 := impl_Mix.mono_l k
 unfold impl_Mix.f
 repeat' first
   | with_reducible first | exact ih0 _ _ _ _ | exact LeO.refl _ | exact LeO.none _ | refine LeO.ite ?_ ?_ | refine LeO.bind ?_ (fun _ => ?_)
   | exact ih0 _ _ _ _
   | exact LeO.none _
   | refine LeO.ite ?_ ?_
   | refine LeO.bind ?_ (fun _ => ?_)
set_option maxHeartbeats 8000000 in
set_option maxRecDepth 100000 in
theorem impl_Mix.calls (k : Nat) (A0 : Option Addr) (c0 : Nat) (l0 : List Int) (r : Int) (w : World) (hr0 : Kd.C (Kd.int .u8) w A0 l0.length l0) (hc0 : l0.length ≤ c0) (h : impl_Mix.f k l0 = some r) :
  Calls Try.prog 81 #[.slice A0 l0.length c0] w fun e w' => e = .returned (.int .i64 r) ∧ Drawn0 w w' := by
 have HR0 := am_ hr0
 have HC0 := am_ hc0
 clear hr0 hc0
 have H : (impl_Mix.l0 k 1469598103 l0 (l0.length : Int) 0) = some r := h
 clear h
 have H' := am_ H
 clear H
 go_enter Try.func81, Try.ntmps81
 go_wp2
 go_loopg [3, 8] k (fun kq v3 v8 w' => ∃ (x3_1 : Int) (x8_1 : Int), v3 = .int .u64 x3_1 ∧ v8 = .int .i64 x8_1 ∧ Aside0 (impl_Mix.l0 kq x3_1 l0 (l0.length : Int) x8_1 = some r) ∧ Aside0 (kq ≤ k) ∧ Drawn0 w w')
 case atStart => exact ⟨(1469598103), (0), rs_, rs_, H', ⟨Nat.le_refl _⟩, by repeat (first | exact Drawn0.refl _ | apply Drawn0.step)⟩
 case round =>
  clear H'
  obtain ⟨x3_1, x8_1, rfl, rfl, HA, HK1, ⟨m1, rfl⟩⟩ := hrel
  cases gk with
  | zero => exact absurd HA.out (by simp [impl_Mix.l0])
  | succ k1 =>
   have H := HA.out
   clear HA
   simp only [impl_Mix.l0] at H
   by_cases c2 : x8_1 < (l0.length : Int)
   ·rw [if_pos c2] at H
    have c2b0 : decide (x8_1 < (l0.length : Int)) = true := decide_eq_true c2
    clear c2
    by_cases c3 : 0 ≤ x8_1
    ·rw [if_pos c3] at H
     have c3b0 : decide (0 ≤ x8_1) = true := decide_eq_true c3
     clear c3
     by_cases c4 : x8_1 < (l0.length : Int)
     ·rw [if_pos c4] at H
      have c4b0 : decide (x8_1 < (l0.length : Int)) = true := decide_eq_true c4
      clear c4
      have H' := am_ H
      clear H
      have p1001 : 0 ≤ (x8_1 : Int) := od_
      have q1001 : x8_1 < (l0.length : Int) := od_
      obtain ⟨ad1001, e1001, hx1001_0⟩ := Kd.at_int HR0.out x8_1 p1001 q1001
      cases e1001
      replace p1001 := eq_true p1001
      replace q1001 := eq_true q1001
      go_wp2
      go_roundg k1
      case measure => have := HK1.out; omega
      case rel => exact ⟨(Go.bits .xor .u64 (IntKind.u64.wrap ((Go.bits .xor .u64 x3_1 (IntKind.u64.wrap (rd l0 x8_1))) * 1099511628211)) ((IntKind.u64.wrap ((Go.bits .xor .u64 x3_1 (IntKind.u64.wrap (rd l0 x8_1))) * 1099511628211)) / 536870912)), (wrap64 (x8_1 + 1)), rs_, rs_, H', ⟨by have := HK1.out; omega⟩, by repeat (first | exact Drawn0.refl _ | apply Drawn0.step)⟩
     ·rw [if_neg c4] at H
      exact absurd H (by simp)
    ·rw [if_neg c3] at H
     exact absurd H (by simp)
   ·rw [if_neg c2] at H
    have c2b0 : decide (x8_1 < (l0.length : Int)) = false := decide_eq_false c2
    clear c2
    obtain rfl := Option.some.inj H
    go_wp2
    go_ret
    exact ⟨by first | rfl | (simp; done) | (simp [*]; done), by repeat (first | exact Drawn0.refl _ | apply Drawn0.step)⟩

/-! ### impl_HashLabels: function 35 -/
def impl_HashLabels.f (k : Nat) (l0 : List (S86)) : Option (Int) := (impl_LabelsText.f k l0).bind fun t => if t.size ≤ 140737488355328 then impl_Mix.f k (bytesOf t) else none
theorem impl_HashLabels.mono : ∀ a0 k, LeO (impl_HashLabels.f k a0) (impl_HashLabels.f (k + 1) a0) := by
 intro a0 k
 unfold impl_HashLabels.f
 exact LeO.bind (impl_LabelsText.mono _ _) (fun _ => LeO.ite (impl_Mix.mono _ _) (LeO.none _))
set_option maxHeartbeats 4000000 in
theorem impl_HashLabels.calls (k : Nat) (A0 : Option Addr) (c0 : Nat) (l0 : List (S86)) (r : Int) (w : World) (hr0 : Kd.C k86 w A0 l0.length l0) (hc0 : l0.length ≤ c0) (h : impl_HashLabels.f k l0 = some r) :
  Calls Try.prog 35 #[.slice A0 l0.length c0] w fun e w' => e = .returned (.int .i64 r) ∧ Below w.heap.size w w' := by
 obtain ⟨t, h1, h⟩ := Option.bind_eq_some_iff.mp h
 split at h
 ·rename_i hl
  have kb := fun W => print_bytes (P := Try.prog) 9 93 5 Try.underlying9 Try.underlying93 Try.underlying5 t W
  have hlt := impl_LabelsText.calls k A0 c0 l0 t w hr0 hc0 h1
  have hmx : ∀ W : World, Calls Try.prog 81 #[.slice (some ⟨W.heap.size, 0, none⟩) t.size (grownCap W t.size 0 5)] (Lib.bytesWorld W 5 t) fun e w' => e = .returned (.int .i64 r) ∧ Drawn0 (Lib.bytesWorld W 5 t) w' := by
   intro W
   have hm := impl_Mix.calls k (some ⟨W.heap.size, 0, none⟩) (grownCap W t.size 0 5) (bytesOf t) r (Lib.bytesWorld W 5 t) (by rw [bytesOf_length]; exact Kd.C_of_reads (d := (0 : Int)) (h1 := fun _ => rfl) (bytes_reads W 5 t (by omega))) (by rw [bytesOf_length]; have := grownCap_ge W t.size 0 5; omega) h
   rw [bytesOf_length] at hm
   exact hm
  clear hr0 h1 h hl
  go_enter Try.func35, Try.ntmps35
  go_wp2_with (first
   | (go_at_call 27; refine hlt.mono ?_; rintro e w1 ⟨rfl, hb1⟩)
   | (go_at_call 81; refine (hmx w1).mono ?_; rintro e w2 ⟨rfl, ⟨nd, rfl⟩⟩))
  go_ret
  exact ⟨rfl, pw_below_drewN (bytes_below hb1 hb1.size 5 t) nd⟩
 ·cases h

/-! ### laws_FnExactHashLabels: function 8 -/
def laws_FnExactHashLabels.f (k : Nat) (l0 : List (S84)) : Option (Bool) := (laws_szLabelS.f k l0 1048576).bind fun t1001 => (if t1001 < 0 then (some true) else ((laws_toLabelS.f k l0).bind fun t1002 => ((spec_HashLabels.f k t1002).bind fun t1005 => ((laws_toLabelS.f k l0).bind fun t1006 => ((impl_HashLabels.f k t1006).bind fun t1009 => (if t1009 = t1005 then ((laws_toLabelS.f k l0).bind fun t1010 => ((laws_eqLabelS.f k t1006 t1010).bind fun t1013 => (if t1013 = true then (some true) else (none)))) else (none)))))))
theorem laws_FnExactHashLabels.mono : ∀ a0 k, LeO (laws_FnExactHashLabels.f k a0) (laws_FnExactHashLabels.f (k + 1) a0) := by
 intro a0 k
 unfold laws_FnExactHashLabels.f
 repeat' first
   | with_reducible first | exact impl_HashLabels.mono _ _ | exact laws_eqLabelS.mono _ _ _ | exact laws_szLabelS.mono _ _ _ | exact laws_toLabelS.mono _ _ | exact spec_HashLabels.mono _ _ | exact LeO.refl _ | exact LeO.none _ | refine LeO.ite ?_ ?_ | refine LeO.bind ?_ (fun _ => ?_)
   | exact impl_HashLabels.mono _ _
   | exact laws_eqLabelS.mono _ _ _
   | exact laws_szLabelS.mono _ _ _
   | exact laws_toLabelS.mono _ _
   | exact spec_HashLabels.mono _ _
   | exact LeO.none _
   | refine LeO.ite ?_ ?_
   | refine LeO.bind ?_ (fun _ => ?_)
set_option maxHeartbeats 8000000 in
set_option maxRecDepth 100000 in
theorem laws_FnExactHashLabels.calls (k : Nat) (A0 : Option Addr) (c0 : Nat) (l0 : List (S84)) (r : Bool) (w : World) (hr0 : Kd.C k84 w A0 l0.length l0) (hc0 : l0.length ≤ c0) (h : laws_FnExactHashLabels.f k l0 = some r) :
  Calls Try.prog 8 #[.slice A0 l0.length c0] w fun e w' => e = .returned (.bool r) ∧ Below w.heap.size w w' := by
 have HR0 := am_ hr0
 have HC0 := am_ hc0
 clear hr0 hc0
 have HB := am_ (Below.refl w.heap.size w)
 have H : ((laws_szLabelS.f k l0 1048576).bind fun t1001 => (if t1001 < 0 then (some true) else ((laws_toLabelS.f k l0).bind fun t1002 => ((spec_HashLabels.f k t1002).bind fun t1005 => ((laws_toLabelS.f k l0).bind fun t1006 => ((impl_HashLabels.f k t1006).bind fun t1009 => (if t1009 = t1005 then ((laws_toLabelS.f k l0).bind fun t1010 => ((laws_eqLabelS.f k t1006 t1010).bind fun t1013 => (if t1013 = true then (some true) else (none)))) else (none)))))))) = some r := h
 clear h
 replace H := Option.bind_eq_some_iff.mp H
 obtain ⟨t1001, A20, H⟩ := H
 replace H : (if t1001 < 0 then (some true) else ((laws_toLabelS.f k l0).bind fun t1002 => ((spec_HashLabels.f k t1002).bind fun t1005 => ((laws_toLabelS.f k l0).bind fun t1006 => ((impl_HashLabels.f k t1006).bind fun t1009 => (if t1009 = t1005 then ((laws_toLabelS.f k l0).bind fun t1010 => ((laws_eqLabelS.f k t1006 t1010).bind fun t1013 => (if t1013 = true then (some true) else (none)))) else (none))))))) = some r := H
 have A2 := am_ A20
 clear A20
 by_cases c3 : t1001 < 0
 ·rw [if_pos c3] at H
  have c3b0 : decide (t1001 < 0) = true := decide_eq_true c3
  clear c3
  obtain rfl := Option.some.inj H
  go_enter Try.func8, Try.ntmps8
  go_wp2_with (first | ((with_reducible refine gate_callee (f := 19) rfl ?_); refine goesL_ (some 9) rfl rfl Try.func19 (by kernel_rfl) rfl #[.slice A0 l0.length c0, .int .i64 1048576] rfl ag_ ?_; (with_reducible refine (laws_szLabelS.calls k _ _ l0 1048576 t1001 _ ?side1 ?side2 A2.out).mono ?_); (case side1 => repeat (first | exact HR0.out | (with_reducible refine Kd.C_alloc ?_ _) | (with_reducible refine Kd.C_drewN ?_ _) | (with_reducible refine Kd.C_drew ?_))); (case side2 => exact HC0.out); rintro e w4 ⟨rfl, hb⟩; refine ⟨_, rfl, ?_⟩; have n0_ := am_ (below_step bl_ hb); clear HB; have HB := n0_; clear n0_; (try clear hb); (try clear hb2); (try clear hk); (try clear hi)))
  go_ret
  exact ⟨rf_, bl_⟩
 ·rw [if_neg c3] at H
  have c3b0 : decide (t1001 < 0) = false := decide_eq_false c3
  clear c3
  replace H := Option.bind_eq_some_iff.mp H
  obtain ⟨t1002, A50, H⟩ := H
  replace H : ((spec_HashLabels.f k t1002).bind fun t1005 => ((laws_toLabelS.f k l0).bind fun t1006 => ((impl_HashLabels.f k t1006).bind fun t1009 => (if t1009 = t1005 then ((laws_toLabelS.f k l0).bind fun t1010 => ((laws_eqLabelS.f k t1006 t1010).bind fun t1013 => (if t1013 = true then (some true) else (none)))) else (none))))) = some r := H
  have A5 := am_ A50
  clear A50
  replace H := Option.bind_eq_some_iff.mp H
  obtain ⟨t1005, A60, H⟩ := H
  replace H : ((laws_toLabelS.f k l0).bind fun t1006 => ((impl_HashLabels.f k t1006).bind fun t1009 => (if t1009 = t1005 then ((laws_toLabelS.f k l0).bind fun t1010 => ((laws_eqLabelS.f k t1006 t1010).bind fun t1013 => (if t1013 = true then (some true) else (none)))) else (none)))) = some r := H
  have A6 := am_ A60
  clear A60
  replace H := Option.bind_eq_some_iff.mp H
  obtain ⟨t1006, A70, H⟩ := H
  replace H : ((impl_HashLabels.f k t1006).bind fun t1009 => (if t1009 = t1005 then ((laws_toLabelS.f k l0).bind fun t1010 => ((laws_eqLabelS.f k t1006 t1010).bind fun t1013 => (if t1013 = true then (some true) else (none)))) else (none))) = some r := H
  have A7 := am_ A70
  clear A70
  replace H := Option.bind_eq_some_iff.mp H
  obtain ⟨t1009, A80, H⟩ := H
  replace H : (if t1009 = t1005 then ((laws_toLabelS.f k l0).bind fun t1010 => ((laws_eqLabelS.f k t1006 t1010).bind fun t1013 => (if t1013 = true then (some true) else (none)))) else (none)) = some r := H
  have A8 := am_ A80
  clear A80
  by_cases c9 : t1009 = t1005
  ·rw [if_pos c9] at H
   have c9b0 : (t1009 == t1005) = true := beq_iff_eq.mpr c9
   have c9b1 : (t1009 != t1005) = false := bne_eq_false_iff_eq.mpr c9
   clear c9
   replace H := Option.bind_eq_some_iff.mp H
   obtain ⟨t1010, A100, H⟩ := H
   replace H : ((laws_eqLabelS.f k t1006 t1010).bind fun t1013 => (if t1013 = true then (some true) else (none))) = some r := H
   have A10 := am_ A100
   clear A100
   replace H := Option.bind_eq_some_iff.mp H
   obtain ⟨t1013, A110, H⟩ := H
   replace H : (if t1013 = true then (some true) else (none)) = some r := H
   have A11 := am_ A110
   clear A110
   by_cases c12 : t1013 = true
   ·subst c12
    have H1 : (some true) = some r := by rw [if_pos rfl] at H; exact H
    clear H
    have H := H1
    clear H1
    obtain rfl := Option.some.inj H
    go_enter Try.func8, Try.ntmps8
    go_wp2_with (first | ((with_reducible refine gate_callee (f := 19) rfl ?_); refine goesL_ (some 9) rfl rfl Try.func19 (by kernel_rfl) rfl #[.slice A0 l0.length c0, .int .i64 1048576] rfl ag_ ?_; (with_reducible refine (laws_szLabelS.calls k _ _ l0 1048576 t1001 _ ?side1 ?side2 A2.out).mono ?_); (case side1 => repeat (first | exact HR0.out | (with_reducible refine Kd.C_alloc ?_ _) | (with_reducible refine Kd.C_drewN ?_ _) | (with_reducible refine Kd.C_drew ?_))); (case side2 => exact HC0.out); rintro e w13 ⟨rfl, hb⟩; refine ⟨_, rfl, ?_⟩; have n0_ := am_ (below_step bl_ hb); clear HB; have HB := n0_; clear n0_; (try clear hb); (try clear hb2); (try clear hk); (try clear hi)) | ((with_reducible refine gate_callee (f := 21) rfl ?_); refine goesL_ (some 13) rfl rfl Try.func21 (by kernel_rfl) rfl #[.slice A0 l0.length c0] rfl ag_ ?_; (with_reducible refine (laws_toLabelS.calls k _ _ l0 t1002 _ ?side1 ?side2 A5.out).mono ?_); (case side1 => exact cc_ (Kd.C_below HR0.out HB.out)); (case side2 => exact HC0.out); rintro e w14 ⟨v1003, rfl, ho0, hb⟩; refine ⟨_, rfl, ?_⟩; have n0_ := am_ (Kd.R_lower ho0 (below_size bl_)); have n1_ := am_ (below_step bl_ hb); clear HB; have HO1004 := n0_; have HB := n1_; clear n0_ n1_; (try clear hb); (try clear hb2); (try clear hk); (try clear hi); (try clear ho0); obtain ⟨Ao15, co15, eo15⟩ := Kd.R_slice HO1004.out; subst eo15) | ((with_reducible refine gate_callee (f := 34) rfl ?_); refine goesL_ (some 14) rfl rfl Try.func34 (by kernel_rfl) rfl #[.slice Ao15 t1002.length co15] rfl ag_ ?_; (with_reducible refine (spec_HashLabels.calls k _ _ t1002 t1005 _ ?side1 ?side2 A6.out).mono ?_); (case side1 => exact cc_ (Kd.R_reads' HO1004.out).2.2); (case side2 => exact (Kd.R_reads' HO1004.out).2.1); rintro e w16 ⟨rfl, hb⟩; refine ⟨_, rfl, ?_⟩; have n0_ := am_ (Kd.R_below (ro_ HO1004) hb); have n1_ := am_ (below_step bl_ hb); clear HO1004; clear HB; have HO1004 := n0_; have HB := n1_; clear n0_ n1_; (try clear hb); (try clear hb2); (try clear hk); (try clear hi)) | ((with_reducible refine gate_callee (f := 21) rfl ?_); refine goesL_ (some 16) rfl rfl Try.func21 (by kernel_rfl) rfl #[.slice A0 l0.length c0] rfl ag_ ?_; (with_reducible refine (laws_toLabelS.calls k _ _ l0 t1006 _ ?side1 ?side2 A7.out).mono ?_); (case side1 => exact cc_ (Kd.C_below HR0.out HB.out)); (case side2 => exact HC0.out); rintro e w17 ⟨v1007, rfl, ho0, hb⟩; refine ⟨_, rfl, ?_⟩; have n0_ := am_ (Kd.R_elder' (ro_ HO1004) (Kd.R_base ho0) hb); have n1_ := am_ (Kd.R_lower (Kd.R_new' ho0 (Kd.R_lt (ro_ HO1004))) (below_size bl_)); have n2_ := am_ (below_step bl_ hb); clear HO1004; clear HB; have HO1004 := n0_; have HO1008 := n1_; have HB := n2_; clear n0_ n1_ n2_; (try clear hb); (try clear hb2); (try clear hk); (try clear hi); (try clear ho0); obtain ⟨Ao18, co18, eo18⟩ := Kd.R_slice HO1008.out; subst eo18) | ((with_reducible refine gate_callee (f := 35) rfl ?_); refine goesL_ (some 18) rfl rfl Try.func35 (by kernel_rfl) rfl #[.slice Ao18 t1006.length co18] rfl ag_ ?_; (with_reducible refine (impl_HashLabels.calls k _ _ t1006 t1009 _ ?side1 ?side2 A8.out).mono ?_); (case side1 => exact cc_ (Kd.R_reads' HO1008.out).2.2); (case side2 => exact (Kd.R_reads' HO1008.out).2.1); rintro e w19 ⟨rfl, hb⟩; refine ⟨_, rfl, ?_⟩; have n0_ := am_ (Kd.R_below (ro_ HO1004) hb); have n1_ := am_ (Kd.R_below (ro_ HO1008) hb); have n2_ := am_ (below_step bl_ hb); clear HO1004; clear HO1008; clear HB; have HO1004 := n0_; have HO1008 := n1_; have HB := n2_; clear n0_ n1_ n2_; (try clear hb); (try clear hb2); (try clear hk); (try clear hi)) | ((with_reducible refine gate_callee (f := 21) rfl ?_); refine goesL_ (some 24) rfl rfl Try.func21 (by kernel_rfl) rfl #[.slice A0 l0.length c0] rfl ag_ ?_; (with_reducible refine (laws_toLabelS.calls k _ _ l0 t1010 _ ?side1 ?side2 A10.out).mono ?_); (case side1 => exact cc_ (Kd.C_below HR0.out HB.out)); (case side2 => exact HC0.out); rintro e w20 ⟨v1011, rfl, ho0, hb⟩; refine ⟨_, rfl, ?_⟩; have n0_ := am_ (Kd.R_elder' (ro_ HO1004) (Kd.R_base ho0) hb); have n1_ := am_ (Kd.R_elder' (ro_ HO1008) (Kd.R_base ho0) hb); have n2_ := am_ (Kd.R_lower (Kd.R_new' (Kd.R_new' ho0 (Kd.R_lt (ro_ HO1004))) (Kd.R_lt (ro_ HO1008))) (below_size bl_)); have n3_ := am_ (below_step bl_ hb); clear HO1004; clear HO1008; clear HB; have HO1004 := n0_; have HO1008 := n1_; have HO1012 := n2_; have HB := n3_; clear n0_ n1_ n2_ n3_; (try clear hb); (try clear hb2); (try clear hk); (try clear hi); (try clear ho0); obtain ⟨Ao21, co21, eo21⟩ := Kd.R_slice HO1012.out; subst eo21) | ((with_reducible refine gate_callee (f := 23) rfl ?_); refine goesL_ (some 25) rfl rfl Try.func23 (by kernel_rfl) rfl #[.slice Ao18 t1006.length co18, .slice Ao21 t1010.length co21] rfl ag_ ?_; (with_reducible refine (laws_eqLabelS.calls k _ _ t1006 _ _ t1010 true _ ?side1 ?side2 ?side3 ?side4 A11.out).mono ?_); (case side1 => exact cc_ (Kd.R_reads' HO1008.out).2.2); (case side2 => exact (Kd.R_reads' HO1008.out).2.1); (case side3 => exact cc_ (Kd.R_reads' HO1012.out).2.2); (case side4 => exact (Kd.R_reads' HO1012.out).2.1); rintro e w22 ⟨rfl, hb⟩; refine ⟨_, rfl, ?_⟩; have n0_ := am_ (Kd.R_below (ro_ HO1004) hb); have n1_ := am_ (Kd.R_below (ro_ HO1008) hb); have n2_ := am_ (Kd.R_below (ro_ HO1012) hb); have n3_ := am_ (below_step bl_ hb); clear HO1004; clear HO1008; clear HO1012; clear HB; have HO1004 := n0_; have HO1008 := n1_; have HO1012 := n2_; have HB := n3_; clear n0_ n1_ n2_ n3_; (try clear hb); (try clear hb2); (try clear hk); (try clear hi)))
    go_ret
    exact ⟨rf_, bl_⟩
   ·replace c12 := Bool.eq_false_iff.mpr c12
    subst c12
    have H1 : (none) = some r := by rw [if_neg (show ¬ (false = true) by decide)] at H; exact H
    clear H
    have H := H1
    clear H1
    exact absurd H (by simp)
  ·rw [if_neg c9] at H
   exact absurd H (by simp)

end Go.Proofs.Ythgeohdpjedhnaa.Pr
