/- Functions of the given program as plain Lean functions, and that the machine's calls come to them; written by a program of this session; no condition but those that each theorem states. -/
import Derived.Test.YtijdnbenofnglaaShelf
import Derived.Test.YtijdnbenofnglaaWRepsOne
import Derived.Test.YtijdnbenofnglaaWFour
import Derived.Test.YtijdnbenofnglaaPrx0
namespace Go.Proofs.Ytijdnbenofnglaa.Pr
open Go.RowKit Go.Proofs.YtijdnbenofnglaaW.PrintWords Go.Proofs.YtijdnbenofnglaaW.PrintLast Go.Proofs.YtijdnbenofnglaaW.PrintMore
attribute [local go_sem] max2_int min2_int max_two min_two max_three min_three max_four min_four   -- for this text's walks alone
set_option linter.unusedVariables false
set_option linter.unusedSimpArgs false

/-! ### spec_l2Printed: function 56 -/
def spec_l2Printed.l0 : Nat → ByteArray → Int → Option (Bool)
 | 0, _, _ => none
 | k + 1, x0, x3 => if x3 < (x0.size : Int) then (if 0 ≤ x3 then (if (bt x0 x3) < 32 then (some false) else (if (bt x0 x3) > 126 then (some false) else (spec_l2Printed.l0 k x0 (wrap64 (x3 + 1))))) else (none)) else (some true)
def spec_l2Printed.f (k : Nat) (a0 : ByteArray) : Option (Bool) := spec_l2Printed.l0 k a0 0
theorem spec_l2Printed.mono_l : ∀ k, (∀ y0 y1, LeO (spec_l2Printed.l0 k y0 y1) (spec_l2Printed.l0 (k + 1) y0 y1))
 | 0 => fun _ _ r h => by simp [spec_l2Printed.l0] at h
 | k + 1 => by
  have ih0 := spec_l2Printed.mono_l k
  ·intro y0 y1
   unfold spec_l2Printed.l0
   repeat' first
   | with_reducible first | exact ih0 _ _ | exact LeO.refl _ | exact LeO.none _ | refine LeO.ite ?_ ?_ | refine LeO.bind ?_ (fun _ => ?_)
   | exact ih0 _ _
   | exact LeO.none _
   | refine LeO.ite ?_ ?_
   | refine LeO.bind ?_ (fun _ => ?_)
theorem spec_l2Printed.mono : ∀ a0 k, LeO (spec_l2Printed.f k a0) (spec_l2Printed.f (k + 1) a0) := by
 intro a0 k
 have ih0 := spec_l2Printed.mono_l k
 unfold spec_l2Printed.f
 repeat' first
   | with_reducible first | exact ih0 _ _ | exact LeO.refl _ | exact LeO.none _ | refine LeO.ite ?_ ?_ | refine LeO.bind ?_ (fun _ => ?_)
   | exact ih0 _ _
   | exact LeO.none _
   | refine LeO.ite ?_ ?_
   | refine LeO.bind ?_ (fun _ => ?_)
set_option maxHeartbeats 8000000 in
set_option maxRecDepth 100000 in
theorem spec_l2Printed.calls (k : Nat) (a0 : ByteArray) (r : Bool) (w : World) (h : spec_l2Printed.f k a0 = some r) :
  Calls Try.prog 56 #[.string a0] w fun e w' => e = .returned (.bool r) ∧ Drawn0 w w' := by
 have H : (spec_l2Printed.l0 k a0 0) = some r := h
 clear h
 have H' := am_ H
 clear H
 go_enter Try.func56, Try.ntmps56
 go_wp2
 go_loopg [3] k (fun kq v3 w' => ∃ (x3_1 : Int), v3 = .int .i64 x3_1 ∧ Aside0 (spec_l2Printed.l0 kq a0 x3_1 = some r) ∧ Aside0 (kq ≤ k) ∧ Drawn0 w w')
 case atStart => exact ⟨(0), rs_, H', ⟨Nat.le_refl _⟩, by repeat (first | exact Drawn0.refl _ | apply Drawn0.step)⟩
 case round =>
  clear H'
  obtain ⟨x3_1, rfl, HA, HK1, ⟨m1, rfl⟩⟩ := hrel
  cases gk with
  | zero => exact absurd HA.out (by simp [spec_l2Printed.l0])
  | succ k1 =>
   have H := HA.out
   clear HA
   simp only [spec_l2Printed.l0] at H
   by_cases c2 : x3_1 < (a0.size : Int)
   ·rw [if_pos c2] at H
    have c2b0 : decide (x3_1 < (a0.size : Int)) = true := decide_eq_true c2
    clear c2
    by_cases c3 : 0 ≤ x3_1
    ·rw [if_pos c3] at H
     have c3b0 : decide (0 ≤ x3_1) = true := decide_eq_true c3
     clear c3
     by_cases c5 : (bt a0 x3_1) < 32
     ·rw [if_pos c5] at H
      have c5b0 : decide ((bt a0 x3_1) < 32) = true := decide_eq_true c5
      clear c5
      obtain rfl := Option.some.inj H
      have p4 : 0 ≤ (x3_1 : Int) := od_
      have q4 : x3_1 < (a0.size : Int) := od_
      have hx4 := bt_at a0 x3_1
      replace p4 := eq_true p4
      replace q4 := eq_true q4
      go_wp2
      go_ret
      exact ⟨by first | rfl | (simp; done) | (simp [*]; done), by repeat (first | exact Drawn0.refl _ | apply Drawn0.step)⟩
     ·rw [if_neg c5] at H
      have c5b0 : decide ((bt a0 x3_1) < 32) = false := decide_eq_false c5
      clear c5
      by_cases c7 : (bt a0 x3_1) > 126
      ·rw [if_pos c7] at H
       have c7b0 : decide (126 < (bt a0 x3_1)) = true := decide_eq_true c7
       clear c7
       obtain rfl := Option.some.inj H
       have p4 : 0 ≤ (x3_1 : Int) := od_
       have q4 : x3_1 < (a0.size : Int) := od_
       have hx4 := bt_at a0 x3_1
       replace p4 := eq_true p4
       replace q4 := eq_true q4
       have p6 : 0 ≤ (x3_1 : Int) := od_
       have q6 : x3_1 < (a0.size : Int) := od_
       have hx6 := bt_at a0 x3_1
       replace p6 := eq_true p6
       replace q6 := eq_true q6
       go_wp2
       go_ret
       exact ⟨by first | rfl | (simp; done) | (simp [*]; done), by repeat (first | exact Drawn0.refl _ | apply Drawn0.step)⟩
      ·rw [if_neg c7] at H
       have c7b0 : decide (126 < (bt a0 x3_1)) = false := decide_eq_false c7
       clear c7
       have H' := am_ H
       clear H
       have p4 : 0 ≤ (x3_1 : Int) := od_
       have q4 : x3_1 < (a0.size : Int) := od_
       have hx4 := bt_at a0 x3_1
       replace p4 := eq_true p4
       replace q4 := eq_true q4
       have p6 : 0 ≤ (x3_1 : Int) := od_
       have q6 : x3_1 < (a0.size : Int) := od_
       have hx6 := bt_at a0 x3_1
       replace p6 := eq_true p6
       replace q6 := eq_true q6
       go_wp2
       go_roundg k1
       case measure => have := HK1.out; omega
       case rel => exact ⟨(wrap64 (x3_1 + 1)), rs_, H', ⟨by have := HK1.out; omega⟩, by repeat (first | exact Drawn0.refl _ | apply Drawn0.step)⟩
    ·rw [if_neg c3] at H
     exact absurd H (by simp)
   ·rw [if_neg c2] at H
    have c2b0 : decide (x3_1 < (a0.size : Int)) = false := decide_eq_false c2
    clear c2
    obtain rfl := Option.some.inj H
    go_wp2
    go_ret
    exact ⟨by first | rfl | (simp; done) | (simp [*]; done), by repeat (first | exact Drawn0.refl _ | apply Drawn0.step)⟩

/-! ### spec_GoodPattern: function 45 -/
def kcut : Kd (Option Addr × Nat × Nat) := Kd.scalar (fun x => .slice x.1 x.2.1 x.2.2) (fun _ => rfl)
theorem move_apart {α : Type} {d : Kd α} {e base : Nat} {W w1 : World} {v v1 x : Value} {o : List α} (h4 : d.R e W base (fun k => some k ≠ v.ownBlock) x o) (hg : W.grownBy w1 v.ownBlock) (hat : v1.ownBlock = v.ownBlock ∨ ∃ b, v1.ownBlock = some b ∧ W.heap.size ≤ b) : d.R e w1 base (fun k => some k ≠ v1.ownBlock) x o := by
 have h5 := Kd.R_bound h4
 refine Kd.R_mono (Kd.R_move h5 (fun k hk => hg.block k hk.2.2.1 hk.1)) (fun k hk => ?_)
 rcases hat with h | ⟨b, h, hb⟩
 ·rw [h]; exact hk.1
 ·rw [h]; intro e; have := hk.2.2.1; cases e; omega
def okE (d : Int) : Bool := decide (d = 42) || decide (d = 63) || decide (d = 124) || decide (d = 92)
/-- A pattern's bytes: behind a backslash stands one of four. -/
def altL (s : ByteArray) : Nat → Nat → Bool
 | 0, _ => true
 | d + 1, i => if i < s.size then (if bt s (i : Int) = 92 then (if i + 1 < s.size then (if okE (bt s ((i + 1 : Nat) : Int)) = true then altL s d (i + 2) else false) else false) else altL s d (i + 1)) else true
theorem altL_more (s : ByteArray) : ∀ (d d' i : Nat), s.size - i ≤ d → s.size - i ≤ d' → altL s d i = altL s d' i := by
 intro d
 induction d with
 | zero =>
  intro d' i h _
  cases d' with
  | zero => rfl
  | succ d' => simp only [altL]; rw [if_neg (by omega)]
 | succ d ih =>
  intro d' i h h'
  by_cases hi : i < s.size
  ·obtain ⟨d', rfl⟩ : ∃ m, d' = m + 1 := ⟨d' - 1, by omega⟩
   simp only [altL]
   rw [if_pos hi, if_pos hi, ih d' (i + 2) (by omega) (by omega), ih d' (i + 1) (by omega) (by omega)]
  ·cases d' with
   | zero => simp only [altL]; rw [if_neg hi]
   | succ d' => simp only [altL]; rw [if_neg hi, if_neg hi]
def altB (s : ByteArray) (i : Nat) : Bool := altL s (s.size - i) i
theorem altB_end {s : ByteArray} {i : Nat} (h : ¬ i < s.size) : altB s i = true := by unfold altB; rw [show s.size - i = 0 from by omega]; rfl
theorem altB_on {s : ByteArray} {i : Nat} (h : i < s.size) (hc : bt s (i : Int) ≠ 92) : altB s i = altB s (i + 1) := by
 unfold altB
 rw [show s.size - i = (s.size - (i + 1)) + 1 from by omega]
 simp only [altL]
 rw [if_pos h, if_neg hc]
theorem altB_cut {s : ByteArray} {i : Nat} (h : i < s.size) (hc : bt s (i : Int) = 92) (h' : ¬ i + 1 < s.size) : altB s i = false := by
 unfold altB
 rw [show s.size - i = (s.size - (i + 1)) + 1 from by omega]
 simp only [altL]
 rw [if_pos h, if_pos hc, if_neg h']
theorem altB_esc {s : ByteArray} {i : Nat} (h : i + 1 < s.size) (hc : bt s (i : Int) = 92) : altB s i = if okE (bt s ((i + 1 : Nat) : Int)) = true then altB s (i + 2) else false := by
 unfold altB
 rw [show s.size - i = (s.size - (i + 1)) + 1 from by omega]
 simp only [altL]
 rw [if_pos (by omega), if_pos hc, if_pos h, altL_more s (s.size - (i + 1)) (s.size - (i + 2)) (i + 2) (by omega) (by omega)]
def spec_l2Alternatives.f (k : Nat) (a0 : ByteArray) : Option Bool := if (a0.size : Int) > 100 then some false else (spec_l2Printed.f k a0).bind fun t => if t = true then some (altB a0 0) else some false
set_option maxHeartbeats 16000000 in
set_option maxRecDepth 100000 in
theorem spec_l2Alternatives.calls (k : Nat) (a0 : ByteArray) (r : Bool) (w : World) (h : spec_l2Alternatives.f k a0 = some r) :
  Calls Try.prog 54 #[.string a0] w fun e w' => ∃ v0_ : Value, e = .returned (.tuple #[v0_, .bool r]) ∧ Below w.heap.size w w' := by
 have i3 : (Try.prog.info? 3).map (fun i => (i.zero, i.size, i.bytes)) = some (some (.int .i64 0), 1, 8) := by kernel_rfl
 have iS : (Try.prog.info? 67).map (fun i => (i.zero, i.size, i.bytes)) = some (some (.slice none 0 0), 1, 24) := by kernel_rfl
 have HB := am_ (Below.refl w.heap.size w)
 unfold spec_l2Alternatives.f at h
 by_cases c1 : (a0.size : Int) > 100
 ·rw [if_pos c1] at h
  have c1b0 : decide (100 < (a0.size : Int)) = true := decide_eq_true c1
  obtain rfl := Option.some.inj h
  go_enter Try.func54, Try.ntmps54
  go_wp2
  go_ret2
  first | exact ⟨_, rf_, bl_⟩ | exact ⟨⟨_, rf_⟩, bl_⟩
 ·rw [if_neg c1] at h
  have c1b0 : decide (100 < (a0.size : Int)) = false := decide_eq_false c1
  have HZ := am_ (show a0.size ≤ 100 by omega)
  clear c1
  obtain ⟨t, ht, h⟩ := Option.bind_eq_some_iff.mp h
  have HT := am_ ht
  clear ht
  cases t with
  | false =>
   rw [if_neg (by decide)] at h
   obtain rfl := Option.some.inj h
   go_enter Try.func54, Try.ntmps54
   go_wp2_with (first | (go_at_call 56; refine (spec_l2Printed.calls k a0 false _ HT.out).mono ?_; rintro e w' ⟨rfl, ⟨nd, rfl⟩⟩))
   go_ret2
   exact ⟨_, rf_, bl_⟩
  | true =>
   rw [if_pos rfl] at h
   have HR := am_ (Option.some.inj h)
   clear h
   go_enter Try.func54, Try.ntmps54
   go_wp2_with (first | (go_at_call 56; refine (spec_l2Printed.calls k a0 true _ HT.out).mono ?_; rintro e w' ⟨rfl, ⟨nd, rfl⟩⟩))
   go_loopg [4, 5, 6] a0.size (fun gg v4 v5 v6 w' => ∃ (o : List (Option Addr × Nat × Nat)) (nw : List Int) (i : Nat), v6 = .int .i64 (i : Int) ∧ Aside0 (o.length ≤ i ∧ nw.length ≤ i ∧ i ≤ a0.size ∧ a0.size ≤ 100 ∧ a0.size - i ≤ gg) ∧ Aside0 (altB a0 i = r) ∧ Aside0 (Kd.R kcut 67 w' w.heap.size (fun k_ => some k_ ≠ (v5 : Value).ownBlock) v4 o) ∧ Aside0 (Kd.R (Kd.int .i64) 3 w' w.heap.size (fun _ => True) v5 nw) ∧ Aside0 (Below w.heap.size w w'))
   case atStart => exact ⟨[], [], 0, rs_, ⟨by have := HZ.out; simp; omega⟩, HR, ⟨ni_⟩, ⟨ni_⟩, ⟨bl_⟩⟩
   case round =>
    obtain ⟨o, nw, i, rfl, HL, HA, HO_4, HO_5, HB⟩ := hrel
    obtain ⟨I, hI⟩ : ∃ I : Int, (i : Int) = I := ⟨_, rfl⟩
    obtain ⟨Ao, co, e5⟩ := Kd.R_slice HO_5.out
    subst e5
    rw [hI]
    have HI := am_ hI
    by_cases c4 : I < (a0.size : Int)
    ·have c4b0 : decide (I < (a0.size : Int)) = true := decide_eq_true c4
     have hI0 : 0 ≤ I := by omega
     have hx6 := bt_at a0 I
     have p6 := eq_true hI0
     have q6 := eq_true c4
     have HIL := am_ c4
     have HI0 := am_ hI0
     clear c4 hI0 hI
     by_cases d124 : bt a0 I = 124
     ·have c124b0 : (bt a0 I == 124) = true := beq_iff_eq.mpr d124
      have HN92 := am_ (show bt a0 I ≠ 92 by omega)
      clear d124
      go_wp2_with (first | ((with_reducible refine gate_builtin (b := .append) (xs := #[.tmp 33, .tmp 35]) rfl ?_); at_builtin; refine Kd.R_append kcut (w0 := w) w.heap.size rfl (.tmp 33) (.tmp 35) 61 67 (.slice none 0 0) 24 rfl Try.underlying61 iS rfl (by decide) (by omega) u4 o (Ao, nw.length, co) [.slice Ao nw.length co] (fun k_ => some k_ ≠ (.slice Ao nw.length co : Value).ownBlock) (fun _ => False) rfl rfl ?aP (fun _ hk => hk.elim) ?aF ?aO ?aB ?aS ?aL ?_; (case aP => exact rfl); (case aB => exact bl_); (case aF => exact Kd.fresh' (Kd.R_lt (show Kd.R (Kd.int .i64) 3 _ w.heap.size (fun _ => True) (.slice Ao nw.length co) nw from ro_ HO_5))); (case aO => exact (ro_ HO_4)); (case aS => exact (below_size bl_)); (case aL => have := HL.out; omega); intro v90 w90 ho hb hg hat; have n1_ := am_ hb; have n2_ := am_ ho; clear HO_4 HO_5 HB; have HO_4 := n2_; have HB := n1_; clear n1_ n2_ ho hb hg hat))
      go_roundg (a0.size - (i + 1))
      case measure => have h1_ := HI.out; have h2_ := HL.out; have h3_ := HIL.out; omega
      case rel => exact ⟨o ++ [(Ao, nw.length, co)], [], i + 1, (by first | rfl | (have h1_ := HI.out; have h2_ := HL.out; have h3_ := HIL.out; congr 1; unfold wrap64; omega)), ⟨by have h1_ := HI.out; have h2_ := HL.out; have h3_ := HIL.out; simp only [List.length_append, List.length_singleton, List.length_nil]; omega⟩, ⟨(altB_on (by have h1_ := HI.out; have h3_ := HIL.out; omega) (by rw [HI.out]; exact HN92.out)).symm.trans HA.out⟩, ⟨Kd.R_mono HO_4.out (fun k_ _ => by simp [Value.ownBlock])⟩, ⟨ni_⟩, ⟨bl_⟩⟩
     ·have c124b0 : (bt a0 I == 124) = false := beq_eq_false_iff_ne.mpr d124
      by_cases d42 : bt a0 I = 42
      ·have c42b0 : (bt a0 I == 42) = true := beq_iff_eq.mpr d42
       have HN92 := am_ (show bt a0 I ≠ 92 by omega)
       clear d42
       go_wp2_with (first | ((with_reducible refine gate_builtin (b := .append) (xs := #[.tmp 39, .tmp 40]) rfl ?_); at_builtin; refine Kd.R_append (Kd.int .i64) (w0 := w) w.heap.size rfl (.tmp 39) (.tmp 40) 67 3 (.int .i64 0) 8 rfl Try.underlying67 i3 rfl (by decide) (by omega) (.slice Ao nw.length co) nw (-1) [.int .i64 (-1)] (fun _ => True) (fun _ => False) rfl rfl ?aP (fun _ hk => hk.elim) ?aF ?aO ?aB ?aS ?aL ?_; (case aP => exact rfl); (case aB => exact bl_); (case aF => exact (fun _ _ => trivial)); (case aO => exact (ro_ HO_5)); (case aS => exact (below_size bl_)); (case aL => have := HL.out; omega); intro v90 w90 ho hb hg hat; have n0_ := am_ (move_apart (show Kd.R kcut 67 _ w.heap.size _ u4 o from ro_ HO_4) hg hat); have n1_ := am_ hb; have n2_ := am_ ho; clear HO_4 HO_5 HB; have HO_4 := n0_; have HB := n1_; have HO_5 := n2_; clear n0_ n1_ n2_ ho hb hg hat))
       go_roundg (a0.size - (i + 1))
       case measure => have h1_ := HI.out; have h2_ := HL.out; have h3_ := HIL.out; omega
       case rel => exact ⟨o, nw ++ [-1], i + 1, (by first | rfl | (have h1_ := HI.out; have h2_ := HL.out; have h3_ := HIL.out; congr 1; unfold wrap64; omega)), ⟨by have h1_ := HI.out; have h2_ := HL.out; have h3_ := HIL.out; simp only [List.length_append, List.length_singleton, List.length_nil]; omega⟩, ⟨(altB_on (by have h1_ := HI.out; have h3_ := HIL.out; omega) (by rw [HI.out]; exact HN92.out)).symm.trans HA.out⟩, ⟨ro_ HO_4⟩, ⟨ro_ HO_5⟩, ⟨bl_⟩⟩
      ·have c42b0 : (bt a0 I == 42) = false := beq_eq_false_iff_ne.mpr d42
       by_cases d63 : bt a0 I = 63
       ·have c63b0 : (bt a0 I == 63) = true := beq_iff_eq.mpr d63
        have HN92 := am_ (show bt a0 I ≠ 92 by omega)
        clear d63
        go_wp2_with (first | ((with_reducible refine gate_builtin (b := .append) (xs := #[.tmp 44, .tmp 45]) rfl ?_); at_builtin; refine Kd.R_append (Kd.int .i64) (w0 := w) w.heap.size rfl (.tmp 44) (.tmp 45) 67 3 (.int .i64 0) 8 rfl Try.underlying67 i3 rfl (by decide) (by omega) (.slice Ao nw.length co) nw (-2) [.int .i64 (-2)] (fun _ => True) (fun _ => False) rfl rfl ?aP (fun _ hk => hk.elim) ?aF ?aO ?aB ?aS ?aL ?_; (case aP => exact rfl); (case aB => exact bl_); (case aF => exact (fun _ _ => trivial)); (case aO => exact (ro_ HO_5)); (case aS => exact (below_size bl_)); (case aL => have := HL.out; omega); intro v90 w90 ho hb hg hat; have n0_ := am_ (move_apart (show Kd.R kcut 67 _ w.heap.size _ u4 o from ro_ HO_4) hg hat); have n1_ := am_ hb; have n2_ := am_ ho; clear HO_4 HO_5 HB; have HO_4 := n0_; have HB := n1_; have HO_5 := n2_; clear n0_ n1_ n2_ ho hb hg hat))
        go_roundg (a0.size - (i + 1))
        case measure => have h1_ := HI.out; have h2_ := HL.out; have h3_ := HIL.out; omega
        case rel => exact ⟨o, nw ++ [-2], i + 1, (by first | rfl | (have h1_ := HI.out; have h2_ := HL.out; have h3_ := HIL.out; congr 1; unfold wrap64; omega)), ⟨by have h1_ := HI.out; have h2_ := HL.out; have h3_ := HIL.out; simp only [List.length_append, List.length_singleton, List.length_nil]; omega⟩, ⟨(altB_on (by have h1_ := HI.out; have h3_ := HIL.out; omega) (by rw [HI.out]; exact HN92.out)).symm.trans HA.out⟩, ⟨ro_ HO_4⟩, ⟨ro_ HO_5⟩, ⟨bl_⟩⟩
       ·have c63b0 : (bt a0 I == 63) = false := beq_eq_false_iff_ne.mpr d63
        by_cases d92 : bt a0 I = 92
        ·have c92b0 : (bt a0 I == 92) = true := beq_iff_eq.mpr d92
         have H92 := am_ (show bt a0 (i : Int) = 92 by rw [HI.out]; exact d92)
         obtain ⟨J, hJ⟩ : ∃ J : Int, I + 1 = J := ⟨_, rfl⟩
         have hJw : IntKind.i64.wrap (I + 1) = J := by have h1_ := HI.out; have h2_ := HL.out; rw [IntKind.wrap_i64]; omega
         have hJv : wrap64 (I + 1) = J := by have h1_ := HI.out; have h2_ := HL.out; unfold wrap64; omega
         have HJ := am_ (show ((i + 1 : Nat) : Int) = J by have h1_ := HI.out; omega)
         clear d92 d124 d42 d63 hJ
         by_cases e1 : J = (a0.size : Int)
         ·have e1b0 : (J == (a0.size : Int)) = true := beq_iff_eq.mpr e1
          obtain rfl : r = false := by rw [← HA.out]; exact altB_cut (by have h1_ := HI.out; have h3_ := HIL.out; omega) H92.out (by have h1_ := HJ.out; omega)
          clear e1
          go_wp2
          go_ret2
          exact ⟨_, rf_, bl_⟩
         ·have e1b0 : (J == (a0.size : Int)) = false := beq_eq_false_iff_ne.mpr e1
          have j1 : J < (a0.size : Int) := by have h1_ := HJ.out; have h2_ := HIL.out; have h3_ := HI.out; omega
          have j0 : 0 ≤ J := by have h1_ := HJ.out; omega
          have HE := am_ ((altB_esc (s := a0) (i := i) (by have h1_ := HJ.out; omega) H92.out).symm.trans HA.out)
          have HJL := am_ j1
          have hx7 := bt_at a0 J
          have p7 := eq_true j0
          have q7 := eq_true j1
          clear j0 j1 e1
          by_cases f42 : bt a0 J = 42
          ·have f42b0 : (bt a0 J != 42) = false := bne_eq_false_iff_eq.mpr f42
           have HF := am_ f42
           clear f42
           go_wp2_with (first | ((with_reducible refine gate_builtin (b := .append) (xs := #[.tmp 79, .tmp 84]) rfl ?_); at_builtin; refine Kd.R_append (Kd.int .i64) (w0 := w) w.heap.size rfl (.tmp 79) (.tmp 84) 67 3 (.int .i64 0) 8 rfl Try.underlying67 i3 rfl (by decide) (by omega) (.slice Ao nw.length co) nw (wrap64 (bt a0 J)) [.int .i64 (wrap64 (bt a0 J))] (fun _ => True) (fun _ => False) rfl rfl ?aP (fun _ hk => hk.elim) ?aF ?aO ?aB ?aS ?aL ?_; (case aP => exact rfl); (case aB => exact bl_); (case aF => exact (fun _ _ => trivial)); (case aO => exact (ro_ HO_5)); (case aS => exact (below_size bl_)); (case aL => have := HL.out; omega); intro v90 w90 ho hb hg hat; have n0_ := am_ (move_apart (show Kd.R kcut 67 _ w.heap.size _ u4 o from ro_ HO_4) hg hat); have n1_ := am_ hb; have n2_ := am_ ho; clear HO_4 HO_5 HB; have HO_4 := n0_; have HB := n1_; have HO_5 := n2_; clear n0_ n1_ n2_ ho hb hg hat))
           go_roundg (a0.size - (i + 2))
           case measure => have h1_ := HI.out; have h2_ := HL.out; have h3_ := HIL.out; omega
           case rel => exact ⟨o, nw ++ [wrap64 (bt a0 J)], i + 2, (by first | rfl | (have h1_ := HI.out; have h2_ := HL.out; have h3_ := HIL.out; have h4_ := HJ.out; have h5_ := HJL.out; congr 1; unfold wrap64; omega)), ⟨by have h1_ := HI.out; have h2_ := HL.out; have h3_ := HIL.out; have h4_ := HJ.out; have h5_ := HJL.out; simp only [List.length_append, List.length_singleton, List.length_nil]; omega⟩, ⟨by have h := HE.out; rw [HJ.out, if_pos (by unfold okE; rw [HF.out]; rfl)] at h; exact h⟩, ⟨ro_ HO_4⟩, ⟨ro_ HO_5⟩, ⟨bl_⟩⟩
          ·have f42b0 : (bt a0 J != 42) = true := bne_iff_ne.mpr f42
           by_cases f63 : bt a0 J = 63
           ·have f63b0 : (bt a0 J != 63) = false := bne_eq_false_iff_eq.mpr f63
            have HF := am_ f63
            clear f63
            go_wp2_with (first | ((with_reducible refine gate_builtin (b := .append) (xs := #[.tmp 79, .tmp 84]) rfl ?_); at_builtin; refine Kd.R_append (Kd.int .i64) (w0 := w) w.heap.size rfl (.tmp 79) (.tmp 84) 67 3 (.int .i64 0) 8 rfl Try.underlying67 i3 rfl (by decide) (by omega) (.slice Ao nw.length co) nw (wrap64 (bt a0 J)) [.int .i64 (wrap64 (bt a0 J))] (fun _ => True) (fun _ => False) rfl rfl ?aP (fun _ hk => hk.elim) ?aF ?aO ?aB ?aS ?aL ?_; (case aP => exact rfl); (case aB => exact bl_); (case aF => exact (fun _ _ => trivial)); (case aO => exact (ro_ HO_5)); (case aS => exact (below_size bl_)); (case aL => have := HL.out; omega); intro v90 w90 ho hb hg hat; have n0_ := am_ (move_apart (show Kd.R kcut 67 _ w.heap.size _ u4 o from ro_ HO_4) hg hat); have n1_ := am_ hb; have n2_ := am_ ho; clear HO_4 HO_5 HB; have HO_4 := n0_; have HB := n1_; have HO_5 := n2_; clear n0_ n1_ n2_ ho hb hg hat))
            go_roundg (a0.size - (i + 2))
            case measure => have h1_ := HI.out; have h2_ := HL.out; have h3_ := HIL.out; omega
            case rel => exact ⟨o, nw ++ [wrap64 (bt a0 J)], i + 2, (by first | rfl | (have h1_ := HI.out; have h2_ := HL.out; have h3_ := HIL.out; have h4_ := HJ.out; have h5_ := HJL.out; congr 1; unfold wrap64; omega)), ⟨by have h1_ := HI.out; have h2_ := HL.out; have h3_ := HIL.out; have h4_ := HJ.out; have h5_ := HJL.out; simp only [List.length_append, List.length_singleton, List.length_nil]; omega⟩, ⟨by have h := HE.out; rw [HJ.out, if_pos (by unfold okE; rw [HF.out]; rfl)] at h; exact h⟩, ⟨ro_ HO_4⟩, ⟨ro_ HO_5⟩, ⟨bl_⟩⟩
           ·have f63b0 : (bt a0 J != 63) = true := bne_iff_ne.mpr f63
            by_cases f124 : bt a0 J = 124
            ·have f124b0 : (bt a0 J != 124) = false := bne_eq_false_iff_eq.mpr f124
             have HF := am_ f124
             clear f124
             go_wp2_with (first | ((with_reducible refine gate_builtin (b := .append) (xs := #[.tmp 79, .tmp 84]) rfl ?_); at_builtin; refine Kd.R_append (Kd.int .i64) (w0 := w) w.heap.size rfl (.tmp 79) (.tmp 84) 67 3 (.int .i64 0) 8 rfl Try.underlying67 i3 rfl (by decide) (by omega) (.slice Ao nw.length co) nw (wrap64 (bt a0 J)) [.int .i64 (wrap64 (bt a0 J))] (fun _ => True) (fun _ => False) rfl rfl ?aP (fun _ hk => hk.elim) ?aF ?aO ?aB ?aS ?aL ?_; (case aP => exact rfl); (case aB => exact bl_); (case aF => exact (fun _ _ => trivial)); (case aO => exact (ro_ HO_5)); (case aS => exact (below_size bl_)); (case aL => have := HL.out; omega); intro v90 w90 ho hb hg hat; have n0_ := am_ (move_apart (show Kd.R kcut 67 _ w.heap.size _ u4 o from ro_ HO_4) hg hat); have n1_ := am_ hb; have n2_ := am_ ho; clear HO_4 HO_5 HB; have HO_4 := n0_; have HB := n1_; have HO_5 := n2_; clear n0_ n1_ n2_ ho hb hg hat))
             go_roundg (a0.size - (i + 2))
             case measure => have h1_ := HI.out; have h2_ := HL.out; have h3_ := HIL.out; omega
             case rel => exact ⟨o, nw ++ [wrap64 (bt a0 J)], i + 2, (by first | rfl | (have h1_ := HI.out; have h2_ := HL.out; have h3_ := HIL.out; have h4_ := HJ.out; have h5_ := HJL.out; congr 1; unfold wrap64; omega)), ⟨by have h1_ := HI.out; have h2_ := HL.out; have h3_ := HIL.out; have h4_ := HJ.out; have h5_ := HJL.out; simp only [List.length_append, List.length_singleton, List.length_nil]; omega⟩, ⟨by have h := HE.out; rw [HJ.out, if_pos (by unfold okE; rw [HF.out]; rfl)] at h; exact h⟩, ⟨ro_ HO_4⟩, ⟨ro_ HO_5⟩, ⟨bl_⟩⟩
            ·have f124b0 : (bt a0 J != 124) = true := bne_iff_ne.mpr f124
             by_cases f92 : bt a0 J = 92
             ·have f92b0 : (bt a0 J != 92) = false := bne_eq_false_iff_eq.mpr f92
              have HF := am_ f92
              clear f92
              go_wp2_with (first | ((with_reducible refine gate_builtin (b := .append) (xs := #[.tmp 79, .tmp 84]) rfl ?_); at_builtin; refine Kd.R_append (Kd.int .i64) (w0 := w) w.heap.size rfl (.tmp 79) (.tmp 84) 67 3 (.int .i64 0) 8 rfl Try.underlying67 i3 rfl (by decide) (by omega) (.slice Ao nw.length co) nw (wrap64 (bt a0 J)) [.int .i64 (wrap64 (bt a0 J))] (fun _ => True) (fun _ => False) rfl rfl ?aP (fun _ hk => hk.elim) ?aF ?aO ?aB ?aS ?aL ?_; (case aP => exact rfl); (case aB => exact bl_); (case aF => exact (fun _ _ => trivial)); (case aO => exact (ro_ HO_5)); (case aS => exact (below_size bl_)); (case aL => have := HL.out; omega); intro v90 w90 ho hb hg hat; have n0_ := am_ (move_apart (show Kd.R kcut 67 _ w.heap.size _ u4 o from ro_ HO_4) hg hat); have n1_ := am_ hb; have n2_ := am_ ho; clear HO_4 HO_5 HB; have HO_4 := n0_; have HB := n1_; have HO_5 := n2_; clear n0_ n1_ n2_ ho hb hg hat))
              go_roundg (a0.size - (i + 2))
              case measure => have h1_ := HI.out; have h2_ := HL.out; have h3_ := HIL.out; omega
              case rel => exact ⟨o, nw ++ [wrap64 (bt a0 J)], i + 2, (by first | rfl | (have h1_ := HI.out; have h2_ := HL.out; have h3_ := HIL.out; have h4_ := HJ.out; have h5_ := HJL.out; congr 1; unfold wrap64; omega)), ⟨by have h1_ := HI.out; have h2_ := HL.out; have h3_ := HIL.out; have h4_ := HJ.out; have h5_ := HJL.out; simp only [List.length_append, List.length_singleton, List.length_nil]; omega⟩, ⟨by have h := HE.out; rw [HJ.out, if_pos (by unfold okE; rw [HF.out]; rfl)] at h; exact h⟩, ⟨ro_ HO_4⟩, ⟨ro_ HO_5⟩, ⟨bl_⟩⟩
             ·have f92b0 : (bt a0 J != 92) = true := bne_iff_ne.mpr f92
              obtain rfl : r = false := by have h := HE.out; rw [HJ.out, if_neg (by unfold okE; rw [decide_eq_false f42, decide_eq_false f63, decide_eq_false f124, decide_eq_false f92]; decide)] at h; exact h.symm
              clear f42 f63 f124 f92
              go_wp2
              go_ret2
              exact ⟨_, rf_, bl_⟩
        ·have c92b0 : (bt a0 I == 92) = false := beq_eq_false_iff_ne.mpr d92
         have HN92 := am_ d92
         clear d92 d124 d42 d63
         go_wp2_with (first | ((with_reducible refine gate_builtin (b := .append) (xs := #[.tmp 24, .tmp 29]) rfl ?_); at_builtin; refine Kd.R_append (Kd.int .i64) (w0 := w) w.heap.size rfl (.tmp 24) (.tmp 29) 67 3 (.int .i64 0) 8 rfl Try.underlying67 i3 rfl (by decide) (by omega) (.slice Ao nw.length co) nw (wrap64 (bt a0 I)) [.int .i64 (wrap64 (bt a0 I))] (fun _ => True) (fun _ => False) rfl rfl ?aP (fun _ hk => hk.elim) ?aF ?aO ?aB ?aS ?aL ?_; (case aP => exact rfl); (case aB => exact bl_); (case aF => exact (fun _ _ => trivial)); (case aO => exact (ro_ HO_5)); (case aS => exact (below_size bl_)); (case aL => have := HL.out; omega); intro v90 w90 ho hb hg hat; have n0_ := am_ (move_apart (show Kd.R kcut 67 _ w.heap.size _ u4 o from ro_ HO_4) hg hat); have n1_ := am_ hb; have n2_ := am_ ho; clear HO_4 HO_5 HB; have HO_4 := n0_; have HB := n1_; have HO_5 := n2_; clear n0_ n1_ n2_ ho hb hg hat))
         go_roundg (a0.size - (i + 1))
         case measure => have h1_ := HI.out; have h2_ := HL.out; have h3_ := HIL.out; omega
         case rel => exact ⟨o, nw ++ [wrap64 (bt a0 I)], i + 1, (by first | rfl | (have h1_ := HI.out; have h2_ := HL.out; have h3_ := HIL.out; congr 1; unfold wrap64; omega)), ⟨by have h1_ := HI.out; have h2_ := HL.out; have h3_ := HIL.out; simp only [List.length_append, List.length_singleton, List.length_nil]; omega⟩, ⟨(altB_on (by have h1_ := HI.out; have h3_ := HIL.out; omega) (by rw [HI.out]; exact HN92.out)).symm.trans HA.out⟩, ⟨ro_ HO_4⟩, ⟨ro_ HO_5⟩, ⟨bl_⟩⟩
    ·have c4b0 : decide (I < (a0.size : Int)) = false := decide_eq_false c4
     obtain rfl : r = true := by rw [← HA.out]; exact altB_end (by omega)
     clear c4 hI
     go_wp2_with (first | ((with_reducible refine gate_builtin (b := .append) (xs := #[.tmp 86, .tmp 88]) rfl ?_); at_builtin; refine Kd.R_append kcut (w0 := w) w.heap.size rfl (.tmp 86) (.tmp 88) 61 67 (.slice none 0 0) 24 rfl Try.underlying61 iS rfl (by decide) (by omega) u4 o (Ao, nw.length, co) [.slice Ao nw.length co] (fun k_ => some k_ ≠ (.slice Ao nw.length co : Value).ownBlock) (fun _ => False) rfl rfl ?aP (fun _ hk => hk.elim) ?aF ?aO ?aB ?aS ?aL ?_; (case aP => exact rfl); (case aB => exact bl_); (case aF => exact Kd.fresh' (Kd.R_lt (show Kd.R (Kd.int .i64) 3 _ w.heap.size (fun _ => True) (.slice Ao nw.length co) nw from ro_ HO_5))); (case aO => exact (ro_ HO_4)); (case aS => exact (below_size bl_)); (case aL => have := HL.out; omega); intro v90 w90 ho hb hg hat; have n1_ := am_ hb; have n2_ := am_ ho; clear HO_4 HO_5 HB; have HO_4 := n2_; have HB := n1_; clear n1_ n2_ ho hb hg hat))
     go_ret2
     exact ⟨_, rf_, bl_⟩
def spec_GoodPattern.f (k : Nat) (a0 : ByteArray) : Option Bool := spec_l2Alternatives.f k a0
theorem spec_GoodPattern.mono : ∀ a0 k, LeO (spec_GoodPattern.f k a0) (spec_GoodPattern.f (k + 1) a0) := by
 intro a0 k
 unfold spec_GoodPattern.f spec_l2Alternatives.f
 exact LeO.ite (LeO.refl _) (LeO.bind (spec_l2Printed.mono _ _) (fun _ => LeO.refl _))
set_option maxHeartbeats 4000000 in
theorem spec_GoodPattern.calls (k : Nat) (a0 : ByteArray) (r : Bool) (w : World) (h : spec_GoodPattern.f k a0 = some r) :
  Calls Try.prog 45 #[.string a0] w fun e w' => e = .returned (.bool r) ∧ Below w.heap.size w w' := by
 have H := am_ (show spec_l2Alternatives.f k a0 = some r from h)
 clear h
 go_enter Try.func45, Try.ntmps45
 go_wp2_with (first | (go_at_call 54; refine (spec_l2Alternatives.calls k a0 r _ H.out).mono ?_; rintro e w' ⟨v0, rfl, hb⟩))
 go_ret
 exact ⟨rfl, hb⟩

/-! ### impl_printed: function 57 -/
def impl_printed.l0 : Nat → ByteArray → Int → Int → Option (Bool)
 | 0, _, _, _ => none
 | k + 1, x0, x11, x12 => if x12 < x11 then (if 0 ≤ x12 then (if x12 < (x0.size : Int) then (if (bt x0 x12) < 32 then (some false) else (if (bt x0 x12) > 126 then (some false) else (impl_printed.l0 k x0 x11 (wrap64 (x12 + 1))))) else (none)) else (none)) else (some true)
def impl_printed.f (k : Nat) (a0 : ByteArray) (a1 : Int) : Option (Bool) := if (a0.size : Int) > a1 then (some false) else (impl_printed.l0 k a0 (a0.size : Int) 0)
theorem impl_printed.mono_l : ∀ k, (∀ y0 y1 y2, LeO (impl_printed.l0 k y0 y1 y2) (impl_printed.l0 (k + 1) y0 y1 y2))
 | 0 => fun _ _ _ r h => by simp [impl_printed.l0] at h
 | k + 1 => by
  have ih0 := impl_printed.mono_l k
  ·intro y0 y1 y2
   unfold impl_printed.l0
   repeat' first
   | with_reducible first | exact ih0 _ _ _ | exact LeO.refl _ | exact LeO.none _ | refine LeO.ite ?_ ?_ | refine LeO.bind ?_ (fun _ => ?_)
   | exact ih0 _ _ _
   | exact LeO.none _
   | refine LeO.ite ?_ ?_
   | refine LeO.bind ?_ (fun _ => ?_)
theorem impl_printed.mono : ∀ a0 a1 k, LeO (impl_printed.f k a0 a1) (impl_printed.f (k + 1) a0 a1) := by
 intro a0 a1 k
 have ih0 := impl_printed.mono_l k
 unfold impl_printed.f
 repeat' first
   | with_reducible first | exact ih0 _ _ _ | exact LeO.refl _ | exact LeO.none _ | refine LeO.ite ?_ ?_ | refine LeO.bind ?_ (fun _ => ?_)
   | exact ih0 _ _ _
   | exact LeO.none _
   | refine LeO.ite ?_ ?_
   | refine LeO.bind ?_ (fun _ => ?_)
set_option maxHeartbeats 8000000 in
set_option maxRecDepth 100000 in
theorem impl_printed.calls (k : Nat) (a0 : ByteArray) (a1 : Int) (r : Bool) (w : World) (h : impl_printed.f k a0 a1 = some r) :
  Calls Try.prog 57 #[.string a0, .int .i64 a1] w fun e w' => e = .returned (.bool r) ∧ Drawn0 w w' := by
 have H : (if (a0.size : Int) > a1 then (some false) else (impl_printed.l0 k a0 (a0.size : Int) 0)) = some r := h
 clear h
 by_cases c3 : (a0.size : Int) > a1
 ·rw [if_pos c3] at H
  have c3b0 : decide (a1 < (a0.size : Int)) = true := decide_eq_true c3
  clear c3
  obtain rfl := Option.some.inj H
  go_enter Try.func57, Try.ntmps57
  go_wp2
  go_ret
  exact ⟨by first | rfl | (simp; done) | (simp [*]; done), by repeat (first | exact Drawn0.refl _ | apply Drawn0.step)⟩
 ·rw [if_neg c3] at H
  have c3b0 : decide (a1 < (a0.size : Int)) = false := decide_eq_false c3
  clear c3
  have H' := am_ H
  clear H
  go_enter Try.func57, Try.ntmps57
  go_wp2
  go_loopg [12] k (fun kq v12 w' => ∃ (x12_1 : Int), v12 = .int .i64 x12_1 ∧ Aside0 (impl_printed.l0 kq a0 (a0.size : Int) x12_1 = some r) ∧ Aside0 (kq ≤ k) ∧ Drawn0 w w')
  case atStart => exact ⟨(0), rs_, H', ⟨Nat.le_refl _⟩, by repeat (first | exact Drawn0.refl _ | apply Drawn0.step)⟩
  case round =>
   clear H'
   try clear p2
   try clear c3
   try clear c3b0
   obtain ⟨x12_1, rfl, HA, HK1, ⟨m1, rfl⟩⟩ := hrel
   cases gk with
   | zero => exact absurd HA.out (by simp [impl_printed.l0])
   | succ k1 =>
    have H := HA.out
    clear HA
    simp only [impl_printed.l0] at H
    by_cases c4 : x12_1 < (a0.size : Int)
    ·rw [if_pos c4] at H
     have c4b0 : decide (x12_1 < (a0.size : Int)) = true := decide_eq_true c4
     clear c4
     by_cases c5 : 0 ≤ x12_1
     ·rw [if_pos c5] at H
      have c5b0 : decide (0 ≤ x12_1) = true := decide_eq_true c5
      clear c5
      by_cases c6 : x12_1 < (a0.size : Int)
      ·rw [if_pos c6] at H
       have c6b0 : decide (x12_1 < (a0.size : Int)) = true := decide_eq_true c6
       clear c6
       by_cases c8 : (bt a0 x12_1) < 32
       ·rw [if_pos c8] at H
        have c8b0 : decide ((bt a0 x12_1) < 32) = true := decide_eq_true c8
        clear c8
        obtain rfl := Option.some.inj H
        have p7 : 0 ≤ (x12_1 : Int) := od_
        have q7 : x12_1 < (a0.size : Int) := od_
        have hx7 := bt_at a0 x12_1
        replace p7 := eq_true p7
        replace q7 := eq_true q7
        go_wp2
        go_ret
        exact ⟨by first | rfl | (simp; done) | (simp [*]; done), by repeat (first | exact Drawn0.refl _ | apply Drawn0.step)⟩
       ·rw [if_neg c8] at H
        have c8b0 : decide ((bt a0 x12_1) < 32) = false := decide_eq_false c8
        clear c8
        by_cases c10 : (bt a0 x12_1) > 126
        ·rw [if_pos c10] at H
         have c10b0 : decide (126 < (bt a0 x12_1)) = true := decide_eq_true c10
         clear c10
         obtain rfl := Option.some.inj H
         have p7 : 0 ≤ (x12_1 : Int) := od_
         have q7 : x12_1 < (a0.size : Int) := od_
         have hx7 := bt_at a0 x12_1
         replace p7 := eq_true p7
         replace q7 := eq_true q7
         have p9 : 0 ≤ (x12_1 : Int) := od_
         have q9 : x12_1 < (a0.size : Int) := od_
         have hx9 := bt_at a0 x12_1
         replace p9 := eq_true p9
         replace q9 := eq_true q9
         go_wp2
         go_ret
         exact ⟨by first | rfl | (simp; done) | (simp [*]; done), by repeat (first | exact Drawn0.refl _ | apply Drawn0.step)⟩
        ·rw [if_neg c10] at H
         have c10b0 : decide (126 < (bt a0 x12_1)) = false := decide_eq_false c10
         clear c10
         have H' := am_ H
         clear H
         have p7 : 0 ≤ (x12_1 : Int) := od_
         have q7 : x12_1 < (a0.size : Int) := od_
         have hx7 := bt_at a0 x12_1
         replace p7 := eq_true p7
         replace q7 := eq_true q7
         have p9 : 0 ≤ (x12_1 : Int) := od_
         have q9 : x12_1 < (a0.size : Int) := od_
         have hx9 := bt_at a0 x12_1
         replace p9 := eq_true p9
         replace q9 := eq_true q9
         go_wp2
         go_roundg k1
         case measure => have := HK1.out; omega
         case rel => exact ⟨(wrap64 (x12_1 + 1)), rs_, H', ⟨by have := HK1.out; omega⟩, by repeat (first | exact Drawn0.refl _ | apply Drawn0.step)⟩
      ·rw [if_neg c6] at H
       exact absurd H (by simp)
     ·rw [if_neg c5] at H
      exact absurd H (by simp)
    ·rw [if_neg c4] at H
     have c4b0 : decide (x12_1 < (a0.size : Int)) = false := decide_eq_false c4
     clear c4
     obtain rfl := Option.some.inj H
     go_wp2
     go_ret
     exact ⟨by first | rfl | (simp; done) | (simp [*]; done), by repeat (first | exact Drawn0.refl _ | apply Drawn0.step)⟩

/-! ### strings_IndexByte: function 59 -/
def strings_IndexByte.f (a0 : ByteArray) (a1 : Int) : Option (Int) := some (Lib.indexByte a0.data.toList a1.toNat.toUInt8)
theorem strings_IndexByte.calls (a0 : ByteArray) (a1 : Int) (r : Int) (w : World) (h : strings_IndexByte.f a0 a1 = some r) :
  Calls Try.prog 59 #[.string a0, .int .u8 a1] w fun e w' => e = .returned (.int .i64 r) ∧ Drawn0 w w' := by
 obtain rfl := Option.some.inj h
 exact (Try.strings_IndexByte a0 a1 w).mono (fun e w' hp => ⟨hp.1, by rw [hp.2]; exact Drawn0.refl _⟩)

/-! ### impl_GoodPattern: function 46 -/
def impl_put.T1 : Bool × List (List Nat × List Nat) := (true, [([], []), ([], []), ([1], [1]), ([2], [2]), ([], []), ([], []), ([5], [5]), ([6], [6]), ([4, 7], [4, 7]), ([8], [8]), ([], []), ([10], [10]), ([9, 11], [9, 11]), ([0, 3, 0, 1, 2, 3, 4, 5, 6, 7, 8, 9, 10, 11, 12], [0, 3]), ([13, 12, 12, 0, 1, 2, 3, 4, 5, 6, 7, 8, 9, 10, 11, 12], [12, 13])])
def impl_put.B1 : List Nat := [0, 0, 2, 6, 0, 0, 32, 96, 240, 496, 0, 1024, 4080, 8191, 16383]
theorem impl_put.tab1 : rtab .any (opsOf Try.f58 1) = impl_put.T1 := by kernel_rfl
theorem impl_put.bits1 : waitsOk impl_put.T1.2 impl_put.B1 = true := by kernel_rfl
set_option maxHeartbeats 8000000 in
set_option maxRecDepth 100000 in
theorem impl_put.calls (x : S70) (gb g n c m : Nat) (J : Int) (xs : List (Option Addr × Nat × Nat)) (Ai : Option Addr) (ci : Nat) (ps : List S70) (w0 w : World) (hB : Below w0.heap.size w0 w) (hJ : ((n : Nat) : Int) - 1 = J) (hn : n ≤ 1000) (h1 : 1 ≤ n) (hm : ps.length = m) (hml : m ≤ 1000)
    (hbk : w.heap[gb]? = some (.cells #[.slice (some ⟨g, 0, none⟩) n c] 64 (0, 0))) (hS : w.cell? ⟨g, J.toNat, none⟩ = some (.slice Ai m ci)) (hO : Kd.R kcut 71 w w0.heap.size (fun k => k = g) (.slice (some ⟨g, 0, none⟩) n c) xs) (hI : Kd.R k70 70 w w0.heap.size (fun k => k ≠ gb ∧ k ≠ g) (.slice Ai m ci) ps) :
    Calls Try.prog 58 #[.agg #[.int .u8 x.f0, .bool x.f1, .bool x.f2], .pointer (some ⟨gb, 0, none⟩)] w fun e w' => (∃ v, e = .returned v) ∧ Below w0.heap.size w0 w' ∧ w'.heap[gb]? = some (.cells #[.slice (some ⟨g, 0, none⟩) n c] 64 (0, 0)) ∧ ∃ Aj cj, Kd.R kcut 71 w' w0.heap.size (fun k => k = g) (.slice (some ⟨g, 0, none⟩) n c) (xs.set J.toNat (Aj, m + 1, cj)) ∧ Kd.R k70 70 w' w0.heap.size (fun k => k ≠ gb ∧ k ≠ g) (.slice Aj (m + 1) cj) (ps ++ [x]) := by
  have hu := Try.underlying70
  have iP : (Try.prog.info? 70).map (fun i => (i.zero, i.size, i.bytes)) = some (some (.agg #[.int .u8 0, .bool false, .bool false]), 3, 3) := by kernel_rfl
  have HB := am_ hB
  have BK := am_ hbk
  have HS1 := am_ hS
  have HO := am_ hO
  have HI := am_ hI
  have HGL := am_ (Kd.R_lt hO g rfl)
  have HL := am_ (show ps.length ≤ 1000 by omega)
  have HM := am_ hm
  have hJw : IntKind.i64.wrap ((n : Int) - 1) = J := by rw [IntKind.wrap_i64]; omega
  have hJv : wrap64 ((n : Int) - 1) = J := by unfold wrap64; omega
  have hj0 : (0 ≤ J) = True := eq_true (by omega)
  have hj1 : (J < (n : Int)) = True := eq_true (by omega)
  have HN := am_ hn
  clear hB hbk hS hO hI hm hn h1 hml hJ
  go_enter Try.func58, Try.ntmps58
  go_wp2_with (first | ((with_reducible refine gate_dst (N := 2) rfl ?_); refine box_event ?hg (N := 2) ?hd (cs := #[.int .u8 x.f0, .bool x.f1, .bool x.f2]) (t := 70) ?hr ?_; (case hd => rfl); (case hg => rfl); (case hr => first | (go_simp; done) | (go_simp; rfl)); intro gx hg w8 hbox hb; have n0_ := am_ (Kd.R_below HO.out hb); have n1_ := am_ (Kd.R_below (Kd.R_elderB HI.out gx (Nat.le_of_eq hg.symm)) hb); have n2_ := am_ (blk_below (g := gb) BK.out hb); have n3_ := am_ (below_step HB.out hb); have n4_ := am_ (kp_ ⟨hb⟩ HS1.out); have n5_ := am_ (Nat.lt_of_lt_of_le HGL.out hb.size); have BX := am_ hbox; clear HO HI BK HB HS1 HGL; have HO := n0_; have HI := n1_; have BK := n2_; have HB := n3_; have HS1 := n4_; have HGL := n5_; clear n0_ n1_ n2_ n3_ n4_ n5_ hb hbox hg))
  have n0_ := am_ (Kd.R_drew HO.out)
  have n1_ := am_ (Kd.R_drew HI.out)
  have n2_ := am_ (blk_drew BK.out)
  have n3_ := am_ (below_drew1 HB.out)
  have n4_ := am_ (show w8.drew.cell? ⟨g, J.toNat, none⟩ = some (.slice Ai m ci) from HS1.out)
  have n5_ := am_ (show g < w8.drew.heap.size from HGL.out)
  have n6_ := am_ (blk_drew BX.out)
  clear HO HI BK HB HS1 HGL BX
  have HO := n0_
  have HI := n1_
  have BK := n2_
  have HB := n3_
  have HS1 := n4_
  have HGL := n5_
  have BX := n6_
  clear n0_ n1_ n2_ n3_ n4_ n5_ n6_
  refine start_ (n := 15) (S := fun w' => w'.cell? ⟨gb, 0, none⟩ = some (.slice (some ⟨g, 0, none⟩) n c) ∧ w'.cell? ⟨g, J.toNat, none⟩ = some (.slice Ai m ci) ∧ w'.cell? ⟨gx, 0, none⟩ = some (.int .u8 x.f0) ∧ w'.cell? ⟨gx, 1, none⟩ = some (.bool x.f1) ∧ w'.cell? ⟨gx, 2, none⟩ = some (.bool x.f2)) (ds := [14]) (bz 15 0) (by kernel_rfl) rfl rfl ⟨(bc1_0 BK), HS1.out, (bc3_0 BX), (bc3_1 BX), (bc3_2 BX)⟩ (fun hHeld => ?_)
  refine with_tabW impl_put.tab1 impl_put.bits1 (fun HT_ HW_ => ?_)
  generalize w8.drew = w9 at BK BX HB HO HI HS1 HGL hHeld ⊢
  refine tz_ 0 3 1 ?_
  refine tz_ 1 4 3 ?_
  refine pz_ 2 5 7 ?_
  refine pz_ 3 6 15 ?_
  refine tz_ 4 7 31 ?_
  refine tz_ 5 8 63 ?_
  refine pz_ 6 9 127 ?_
  refine pz_ 7 10 255 ?_
  refine pz_ 8 11 511 ?_
  refine tz_ 9 12 1023 ?_
  refine tz_ 10 13 2047 ?_
  refine one_ (i := 11) (N := some 14) (bz 15 4095) rfl rfl (one_of HT_.out (by kernel_rfl)) (by decide) (fun K hK => ?_)
  refine value_ (w1 := ?_) (v := ?_) (by rfl) rfl ?_ ?_
  rotate_left 2
  · go_simp
    constructor
    · rfl
    · rfl
  refine hK.out _ _ ⟨(blk_cell (blk_alloc BK.out _) 0).trans rfl, kp_ ⟨below_alloc (Below.refl _ _) _⟩ HS1.out, (blk_cell (blk_alloc BX.out _) 0).trans rfl, (blk_cell (blk_alloc BX.out _) 1).trans rfl, (blk_cell (blk_alloc BX.out _) 2).trans rfl⟩ (fun hHeld => ?_)
  clear hK K
  refine norm_ (a' := ?_) ?_ ?_
  rotate_left
  · show Act.put _ (some 14) _ = _
    simp only [Act.put, List.setIfInBounds_toArray, List.set_cons_zero, List.set_cons_succ, i64_w, i32_w]
    rfl
  refine one_ (i := 12) (N := some 15) (bz 15 8191) rfl rfl (one_of HT_.out (by kernel_rfl)) (by decide) (fun K hK => ?_)
  refine Kd.R_append_step k70 (w0 := w0) w0.heap.size (by rfl) (.tmp 12) (.tmp 14) 71 70 (.agg #[.int .u8 0, .bool false, .bool false]) 3 rfl Try.underlying71 iP rfl (by decide) (by omega) (.slice Ai m ci) ps x [.int .u8 x.f0, .bool x.f1, .bool x.f2] (fun k_ => (k_ ≠ gb ∧ k_ ≠ g) ∧ k_ ≠ gx) (fun _ => False) rfl rfl ?aP (fun _ hk => hk.elim) ?aF ?aO ?aB ?aS ?aL ?_
  (case aP => exact k70_mkM _ _ _ x)
  (case aB => exact bg_)
  (case aF => exact (fun k_ hk => ⟨⟨fun e_ => by have h_ := blk_lt BK.out; omega, fun e_ => by have h_ := HGL.out; omega⟩, fun e_ => by have h_ := blk_lt BX.out; omega⟩))
  (case aO => exact HI.out)
  (case aS => exact (below_size bg_))
  (case aL => have h_ := HL.out; omega)
  intro v15 w15 ho hb hg hat
  have hnb : some gb ≠ (.slice Ai m ci : Value).ownBlock := Kd.R_away HI.out (fun _ hk => hk.1.1)
  have hng : some g ≠ (.slice Ai m ci : Value).ownBlock := Kd.R_away HI.out (fun _ hk => hk.1.2)
  have hnx : some gx ≠ (.slice Ai m ci : Value).ownBlock := Kd.R_away HI.out (fun _ hk => hk.2)
  have n0_ := am_ (blk_grown (g := gb) BK.out hg hnb)
  have n1_ := am_ (blk_grown (g := gx) BX.out hg hnx)
  have n2_ := am_ hb
  have n3_ := am_ ho
  have n4_ := am_ (show Kd.R kcut 71 w15 w0.heap.size (fun k => k = g) (.slice (some ⟨g, 0, none⟩) n c) xs from Kd.R_move HO.out (fun k_ hk => by rw [show k_ = g from hk]; exact hg.block g HGL.out hng))
  have n5_ := am_ ((World.cell?_of_block (a := ⟨g, J.toNat, none⟩) (hg.block g HGL.out hng)).trans HS1.out)
  have n6_ := am_ (Nat.lt_of_lt_of_le HGL.out hg.size)
  clear BK BX HB HI HO HS1 HGL hnb hng hnx ho hb hg hat
  have BK := n0_
  have BX := n1_
  have HB := n2_
  have HI := n3_
  have HO := n4_
  have HS1 := n5_
  have HGL := n6_
  clear n0_ n1_ n2_ n3_ n4_ n5_ n6_
  obtain ⟨Aj, cj, ej⟩ := Kd.R_slice HI.out
  subst ej
  obtain ⟨cl_, hcl_⟩ := Kd.R_typed HO.out g rfl
  have hfr := blk_frozen hcl_ J.toNat
  refine hK.out _ _ ⟨(bc1_0 BK), HS1.out, (bc3_0 BX), (bc3_1 BX), (bc3_2 BX)⟩ (fun hHeld => ?_)
  clear hK K
  refine norm_ (a' := ?_) ?_ ?_
  rotate_left
  · show Act.put _ (some 15) _ = _
    simp only [Act.put, List.setIfInBounds_toArray, List.set_cons_zero, List.set_cons_succ, i64_w, i32_w]
    rfl
  refine pz_ 13 16 16383 ?_
  refine last_ (i := 14) (N := none) (bz 15 32767) rfl rfl (one_of HT_.out (by kernel_rfl)) (by decide) (fun K hK => ?_)
  refine skip_ (w1 := ?_) (by rfl) rfl ?_ ?_
  rotate_left
  · go_simp
    rfl
  refine hK.out _ _ ?_
  clear hK K
  refine done_ (done_of HT_.out (by kernel_rfl)) ?_
  
  have hgb : w0.heap.size ≤ g := ((Kd.R_bound HO.out).1 g rfl).2.1
  have hne : some gb ≠ (.slice (some ⟨g, 0, none⟩) n c : Value).ownBlock := Kd.R_ne HO.out BK.out (by decide)
  have hl2 : (ps ++ [x]).length = m + 1 := by rw [List.length_append, List.length_singleton, HM.out]
  have hl3 := HM.out
  subst hl3
  refine bodyPost_end (results_none rfl _ _ _) rfl ?_
  refine ⟨⟨_, rfl⟩, below_set HB.out hgb, blk_far BK.out (fun e_ => hne (by rw [e_]; rfl)) _, Aj, cj, ?_, ?_⟩
  · exact Kd.R_putn (enc := fun x : Option Addr × Nat × Nat => .slice x.1 x.2.1 x.2.2) (h1 := fun _ => rfl) HO.out J (Aj, ps.length + 1, cj)
  · have h9 := Kd.R_mono (Kd.R_far (p := ⟨g, J.toNat, none⟩) HI.out (fun _ hk => hk.1.2) (.slice Aj (ps.length + 1) cj)) (fun _ hk => hk.1)
    rw [hl2] at h9
    exact h9
theorem cut_tight {e base g n c : Nat} {w : World} {ok : Nat → Prop} {xs : List (Option Addr × Nat × Nat)} (h : Kd.R kcut e w base ok (.slice (some ⟨g, 0, none⟩) n c) xs) : Kd.R kcut e w base (fun k => k = g) (.slice (some ⟨g, 0, none⟩) n c) xs :=
  Kd.R_of_own (enc := fun x : Option Addr × Nat × Nat => .slice x.1 x.2.1 x.2.2) (h1 := fun _ => rfl) (Kd.own_of_R (enc := fun x : Option Addr × Nat × Nat => .slice x.1 x.2.1 x.2.2) (h1 := fun _ => rfl) h) (fun k hk => by simp [Value.ownBlock] at hk; exact hk.symm)
theorem cut_cell {e base g n c j : Nat} {w : World} {ok : Nat → Prop} {xs : List (Option Addr × Nat × Nat)} {x : Option Addr × Nat × Nat} (h : Kd.R kcut e w base ok (.slice (some ⟨g, 0, none⟩) n c) xs) (hx : xs[j]? = some x) : w.cell? ⟨g, j, none⟩ = some (.slice x.1 x.2.1 x.2.2) := by
  obtain ⟨h1, h2, h3⟩ := Kd.R_reads' h
  have h4 := Kd.reads_of_C (enc := fun x : Option Addr × Nat × Nat => .slice x.1 x.2.1 x.2.2) (d := (none, 0, 0)) (h1 := fun _ => rfl) h3
  obtain ⟨hj, hx⟩ := List.getElem?_eq_some_iff.1 hx
  obtain ⟨ad, e1, h5⟩ := h4.2.2 (by omega)
  cases e1
  have h6 := h5 j hj
  rw [List.getD_eq_getElem?_getD, List.getElem?_eq_getElem hj, Option.getD_some, hx, add_plain] at h6
  exact h6
theorem cut_cell3 {e base g n c j : Nat} {w : World} {ok : Nat → Prop} {xs : List (Option Addr × Nat × Nat)} {A : Option Addr} {m ci : Nat} (h : Kd.R kcut e w base ok (.slice (some ⟨g, 0, none⟩) n c) xs) (hx : xs[j]? = some (A, m, ci)) : w.cell? ⟨g, j, none⟩ = some (.slice A m ci) := cut_cell h hx
theorem four_at : ∀ b : Fin 256, decide (Lib.indexByte [42, 63, 124, 92] (UInt8.ofNat b.val) < 0) = !(okE ((b.val : Nat) : Int)) := by decide +kernel
theorem four_of {d : Int} (h0 : 0 ≤ d) (h1 : d ≤ 255) : decide (Lib.indexByte [42, 63, 124, 92] d.toNat.toUInt8 < 0) = !(okE d) := by
  have h := four_at ⟨d.toNat, by omega⟩
  simp only [Int.toNat_of_nonneg h0] at h
  exact h
def impl_alternatives.f (k : Nat) (a0 : ByteArray) : Option Bool := (impl_printed.f k a0 100).bind fun t => if t = true then (if a0.size ≤ 900 then some (altB a0 0) else none) else some false
set_option maxHeartbeats 32000000 in
set_option maxRecDepth 100000 in
theorem impl_alternatives.calls (k : Nat) (a0 : ByteArray) (r : Bool) (w : World) (h : impl_alternatives.f k a0 = some r) :
    Calls Try.prog 55 #[.string a0] w fun e w' => ∃ v0_ : Value, e = .returned (.tuple #[v0_, .bool r]) ∧ Below w.heap.size w w' := by
  have iS : (Try.prog.info? 71).map (fun i => (i.zero, i.size, i.bytes)) = some (some (.slice none 0 0), 1, 24) := by kernel_rfl
  have hu := Try.underlying70
  have HB := am_ (Below.refl w.heap.size w)
  unfold impl_alternatives.f at h
  obtain ⟨t, ht, h⟩ := Option.bind_eq_some_iff.mp h
  have HT := am_ ht
  clear ht
  cases t with
  | false =>
    rw [if_neg (by decide)] at h
    obtain rfl := Option.some.inj h
    go_enter Try.func55, Try.ntmps55
    go_wp2_with (first | (go_at_call 57; refine (impl_printed.calls k a0 100 false _ HT.out).mono ?_; rintro e w' ⟨rfl, ⟨nd, rfl⟩⟩))
    go_ret2
    first | exact ⟨_, rf_, bl_⟩ | exact ⟨⟨_, rf_⟩, bl_⟩
  | true =>
    rw [if_pos rfl] at h
    by_cases hz : a0.size ≤ 900
    · rw [if_pos hz] at h
      have HZ := am_ hz
      have HR := am_ (Option.some.inj h)
      clear h hz
      go_enter Try.func55, Try.ntmps55
      go_wp2_with (first | (go_at_call 57; refine (impl_printed.calls k a0 100 true _ HT.out).mono ?_; rintro e w' ⟨rfl, ⟨nd, rfl⟩⟩) | ((with_reducible refine gate_dst (N := 11) rfl ?_); refine Kd.R_lit kcut _ 71 ?hg (N := 11) ?hd (xs := [(none, 0, 0)]) (inner := [.slice none 0 0]) (ok := fun _ => True) (okp := fun _ => True) ?hr ?hp (fun _ hk => hk) trivial (Below.refl _ _) (Nat.le_refl _) (by simp) ?_; (case hd => rfl); (case hg => rfl); (case hr => first | (go_simp; done) | (go_simp; rfl)); (case hp => exact (Reps.one (show Kd.M kcut _ _ _ (none, 0, 0) [.slice none 0 0] from rfl) (Reps.none _ _))); intro v11 w11 ho hb hg_ hnew_; obtain ⟨g0, cp0, ev0, hz1_, hz2_, hz3_⟩ := Kd.R_form ho (by simp); subst ev0; have n0_ := am_ (cut_tight (Kd.R_lower ho (below_size bl_))); have n1_ := am_ (below_step bl_ hb); clear HB; have HO := n0_; have HB := n1_; clear n0_ n1_ ho hb hg_ hnew_ hz1_ hz2_ hz3_) | ((with_reducible refine gate_dst (N := 4) rfl ?_); refine box_event ?hg (N := 4) ?hd (cs := #[.slice none 0 0]) (t := 64) ?hr ?_; (case hd => rfl); (case hg => rfl); (case hr => first | (go_simp; done) | (go_simp; rfl)); intro gb hg w12 hbox hb; have n0_ := am_ (Kd.R_below HO.out hb); have n1_ := am_ (below_step bl_ hb); have GE := am_ (gs_ hg : w.heap.size ≤ gb); have BK := am_ hbox; clear HO HB; have HO := n0_; have HB := n1_; clear n0_ n1_ hb hbox hg; have hcz1_0 := bc1_0 BK; have hfz1_0 := bf_ BK 0))
      have hne0 : g0 ≠ gb := fun e_ => Kd.R_ne HO.out BK.out (by decide) (by rw [e_]; rfl)
      have HNE := am_ hne0
      clear hne0 hcz1_0 hfz1_0
      go_loopg [6] a0.size (fun gg v6 w' => ∃ (g n c : Nat) (xs : List (Option Addr × Nat × Nat)) (Ai : Option Addr) (m ci : Nat) (ps : List S70) (i : Nat), v6 = .int .i64 (i : Int) ∧ Aside0 (n = xs.length ∧ 1 ≤ n ∧ n ≤ i + 1 ∧ m ≤ i ∧ ps.length = m ∧ i ≤ a0.size ∧ a0.size ≤ 900 ∧ xs[n - 1]? = some (Ai, m, ci) ∧ a0.size - i ≤ gg) ∧ Aside0 (altB a0 i = r) ∧ Aside0 (w'.heap[gb]? = some (.cells #[.slice (some ⟨g, 0, none⟩) n c] 64 (0, 0))) ∧ Aside0 (g ≠ gb) ∧ Aside0 (Kd.R kcut 71 w' w.heap.size (fun k => k = g) (.slice (some ⟨g, 0, none⟩) n c) xs) ∧ Aside0 (Kd.R k70 70 w' w.heap.size (fun k => k ≠ gb ∧ k ≠ g) (.slice Ai m ci) ps) ∧ Aside0 (Below w.heap.size w w'))
      case atStart => exact ⟨g0, 1, cp0, [(none, 0, 0)], none, 0, 0, [], 0, rs_, ⟨by have := HZ.out; simp; omega⟩, HR, ⟨blk_put (cs := #[.slice none 0 0]) BK.out 0 _ rfl⟩, HNE, ⟨Kd.R_far (p := ⟨gb, 0, none⟩) HO.out (fun k_ hk => by rw [show k_ = g0 from hk]; exact HNE.out) _⟩, ⟨Kd.R_nil _ _ _ _ _⟩, ⟨below_set HB.out GE.out⟩⟩
      case round =>
        obtain ⟨g, n, c, xs, Ai, m, ci, ps, i, rfl, HL, HA, BK, HNE, HO, HI, HB⟩ := hrel
        obtain ⟨I, hI⟩ : ∃ I : Int, (i : Int) = I := ⟨_, rfl⟩
        rw [hI]
        have HIq := am_ hI
        have hcz2_0 := bc1_0 BK
        have hfz2_0 := bf_ BK 0
        by_cases c4 : I < (a0.size : Int)
        · have c4b0 : decide (I < (a0.size : Int)) = true := decide_eq_true c4
          have hI0 : 0 ≤ I := by omega
          have hx6 := bt_at a0 I
          have p6 := eq_true hI0
          have q6 := eq_true c4
          have HIL := am_ c4
          clear c4 hI0 hI
          by_cases d124 : bt a0 I = 124
          · have c124b0 : (bt a0 I == 124) = true := beq_iff_eq.mpr d124
            have HN92 := am_ (show bt a0 I ≠ 92 by omega)
            clear d124
            go_wp2_with (first | ((with_reducible refine gate_builtin (b := .append) (xs := #[.tmp 29, .tmp 30]) rfl ?_); at_builtin; refine Kd.R_append kcut (w0 := w) w.heap.size rfl (.tmp 29) (.tmp 30) 64 71 (.slice none 0 0) 24 rfl Try.underlying64 iS rfl (by decide) (by omega) (.slice (some ⟨g, 0, none⟩) n c) xs (none, 0, 0) [.slice none 0 0] (fun k_ => k_ ≠ gb) (fun _ => False) rfl rfl ?aP (fun _ hk => hk.elim) ?aF ?aO ?aB ?aS ?aL ?_; (case aP => exact rfl); (case aB => exact bl_); (case aF => exact (fun k_ hk e_ => by have h_ := blk_lt BK.out; omega)); (case aO => exact Kd.R_mono (show Kd.R kcut 71 _ w.heap.size (fun k => k = g) (.slice (some ⟨g, 0, none⟩) n c) xs from ro_ HO) (fun k_ hk => by rw [show k_ = g from hk]; exact HNE.out)); (case aS => exact (below_size bl_)); (case aL => have := HL.out; omega); intro v31 w31 ho hb hg hat; obtain ⟨g2, cp2, ev2, hz1_, hz2_, hz3_⟩ := Kd.R_form ho (by simp); subst ev2; have n0_ := am_ (show g2 ≠ gb from ho.1 g2 rfl); have n1_ := am_ (cut_tight ho); have n2_ := am_ hb; have n3_ := am_ (blk_grown (g := gb) (o := .cells #[.slice (some ⟨g, 0, none⟩) n c] 64 (0, 0)) (vk_ BK) hg (fun e_ => HNE.out (by simp [Value.ownBlock] at e_; exact e_.symm))); clear HO HB BK HNE HI; have HNE := n0_; have HO := n1_; have HB := n2_; have BK := n3_; clear n0_ n1_ n2_ n3_ ho hb hg hat hz1_ hz2_ hz3_; have hcz3_0 := bc1_0 BK; have hfz3_0 := bf_ BK 0))
            go_roundg (a0.size - (i + 1))
            case measure => have h1_ := HIq.out; have h2_ := HL.out; have h3_ := HIL.out; omega
            case rel => exact ⟨g2, xs.length + 1, cp2, xs ++ [(none, 0, 0)], none, 0, 0, [], i + 1, (by first | rfl | (have h1_ := HIq.out; have h2_ := HL.out; have h3_ := HIL.out;  congr 1; unfold wrap64; omega)), ⟨by have h1_ := HIq.out; have h2_ := HL.out; have h3_ := HIL.out;  refine ⟨by simp, by omega, by omega, by omega, rfl, by omega, by omega, ?_, by omega⟩; simp⟩, ⟨(altB_on (by have h1_ := HIq.out; have h3_ := HIL.out; omega) (by rw [HIq.out]; exact HN92.out)).symm.trans HA.out⟩, ⟨blk_put (cs := #[.slice (some ⟨g, 0, none⟩) n c]) BK.out 0 _ rfl⟩, HNE, ⟨by have h8 := HO.out; rw [List.length_append, List.length_singleton] at h8; exact Kd.R_far (p := ⟨gb, 0, none⟩) h8 (fun k_ hk => by rw [show k_ = g2 from hk]; exact HNE.out) _⟩, ⟨Kd.R_nil _ _ _ _ _⟩, ⟨below_set HB.out GE.out⟩⟩
          · have c124b0 : (bt a0 I == 124) = false := beq_eq_false_iff_ne.mpr d124
            by_cases d42 : bt a0 I = 42
            · have c42b0 : (bt a0 I == 42) = true := beq_iff_eq.mpr d42
              have HN92 := am_ (show bt a0 I ≠ 92 by omega)
              clear d42
              have HS0 := am_ (show xs[((n : Int) - 1).toNat]? = some (Ai, m, ci) from by have h_ := HL.out.2.2.2.2.2.2.2.1; have h2_ := HL.out.2.1; rw [show ((n : Int) - 1).toNat = n - 1 from by omega]; exact h_)
              go_wp2_with (first | (go_at_call 58; refine (impl_put.calls (⟨0, false, true⟩ : S70) gb g n c m ((n : Int) - 1) xs Ai ci ps w _ HB.out rfl (by have := HL.out; omega) (by have := HL.out; omega) HL.out.2.2.2.2.1 (by have := HL.out; omega) BK.out (cut_cell3 HO.out HS0.out) HO.out HI.out).mono ?_; rintro e w20 ⟨⟨v20, rfl⟩, hb, hbk, Aj, cj, hO, hI2⟩; have n0_ := am_ hb; have n1_ := am_ hbk; have n2_ := am_ hO; have n3_ := am_ hI2; clear HB BK HO HI; have HB := n0_; have BK := n1_; have HO := n2_; have HI := n3_; clear n0_ n1_ n2_ n3_ hb hbk hO hI2))
              go_roundg (a0.size - (i + 1))
              case measure => have h1_ := HIq.out; have h2_ := HL.out; have h3_ := HIL.out; omega
              case rel => exact ⟨g, n, c, xs.set ((n : Int) - 1).toNat (Aj, m + 1, cj), Aj, m + 1, cj, ps ++ [(⟨0, false, true⟩ : S70)], i + 1, (by first | rfl | (have h1_ := HIq.out; have h2_ := HL.out; have h3_ := HIL.out;  congr 1; unfold wrap64; omega)), ⟨by have h1_ := HIq.out; have h2_ := HL.out; have h3_ := HIL.out;  refine ⟨by rw [List.length_set]; omega, by omega, by omega, by omega, by rw [List.length_append, List.length_singleton]; omega, by omega, by omega, ?_, by omega⟩; rw [show ((n : Int) - 1).toNat = n - 1 from by omega]; exact List.getElem?_set_self (by omega)⟩, ⟨(altB_on (by have h1_ := HIq.out; have h3_ := HIL.out; omega) (by rw [HIq.out]; exact HN92.out)).symm.trans HA.out⟩, BK, HNE, HO, HI, HB⟩
            · have c42b0 : (bt a0 I == 42) = false := beq_eq_false_iff_ne.mpr d42
              by_cases d63 : bt a0 I = 63
              · have c63b0 : (bt a0 I == 63) = true := beq_iff_eq.mpr d63
                have HN92 := am_ (show bt a0 I ≠ 92 by omega)
                clear d63
                have HS0 := am_ (show xs[((n : Int) - 1).toNat]? = some (Ai, m, ci) from by have h_ := HL.out.2.2.2.2.2.2.2.1; have h2_ := HL.out.2.1; rw [show ((n : Int) - 1).toNat = n - 1 from by omega]; exact h_)
                go_wp2_with (first | (go_at_call 58; refine (impl_put.calls (⟨0, true, false⟩ : S70) gb g n c m ((n : Int) - 1) xs Ai ci ps w _ HB.out rfl (by have := HL.out; omega) (by have := HL.out; omega) HL.out.2.2.2.2.1 (by have := HL.out; omega) BK.out (cut_cell3 HO.out HS0.out) HO.out HI.out).mono ?_; rintro e w20 ⟨⟨v20, rfl⟩, hb, hbk, Aj, cj, hO, hI2⟩; have n0_ := am_ hb; have n1_ := am_ hbk; have n2_ := am_ hO; have n3_ := am_ hI2; clear HB BK HO HI; have HB := n0_; have BK := n1_; have HO := n2_; have HI := n3_; clear n0_ n1_ n2_ n3_ hb hbk hO hI2))
                go_roundg (a0.size - (i + 1))
                case measure => have h1_ := HIq.out; have h2_ := HL.out; have h3_ := HIL.out; omega
                case rel => exact ⟨g, n, c, xs.set ((n : Int) - 1).toNat (Aj, m + 1, cj), Aj, m + 1, cj, ps ++ [(⟨0, true, false⟩ : S70)], i + 1, (by first | rfl | (have h1_ := HIq.out; have h2_ := HL.out; have h3_ := HIL.out;  congr 1; unfold wrap64; omega)), ⟨by have h1_ := HIq.out; have h2_ := HL.out; have h3_ := HIL.out;  refine ⟨by rw [List.length_set]; omega, by omega, by omega, by omega, by rw [List.length_append, List.length_singleton]; omega, by omega, by omega, ?_, by omega⟩; rw [show ((n : Int) - 1).toNat = n - 1 from by omega]; exact List.getElem?_set_self (by omega)⟩, ⟨(altB_on (by have h1_ := HIq.out; have h3_ := HIL.out; omega) (by rw [HIq.out]; exact HN92.out)).symm.trans HA.out⟩, BK, HNE, HO, HI, HB⟩
              · have c63b0 : (bt a0 I == 63) = false := beq_eq_false_iff_ne.mpr d63
                by_cases d92 : bt a0 I = 92
                · have c92b0 : (bt a0 I == 92) = true := beq_iff_eq.mpr d92
                  have H92 := am_ (show bt a0 (i : Int) = 92 by rw [HIq.out]; exact d92)
                  obtain ⟨J, hJ⟩ : ∃ J : Int, I + 1 = J := ⟨_, rfl⟩
                  have hJw : IntKind.i64.wrap (I + 1) = J := by have h1_ := HIq.out; have h2_ := HL.out; rw [IntKind.wrap_i64]; omega
                  have hJv : wrap64 (I + 1) = J := by have h1_ := HIq.out; have h2_ := HL.out; unfold wrap64; omega
                  have HJ := am_ (show ((i + 1 : Nat) : Int) = J by have h1_ := HIq.out; omega)
                  clear d92 d124 d42 d63 hJ
                  by_cases e1 : J = (a0.size : Int)
                  · have e1b0 : (J == (a0.size : Int)) = true := beq_iff_eq.mpr e1
                    obtain rfl : r = false := by rw [← HA.out]; exact altB_cut (by have h1_ := HIq.out; have h3_ := HIL.out; omega) H92.out (by have h1_ := HJ.out; omega)
                    clear e1
                    go_wp2
                    go_ret2
                    first | exact ⟨_, rf_, bl_⟩ | exact ⟨⟨_, rf_⟩, bl_⟩
                  · have e1b0 : (J == (a0.size : Int)) = false := beq_eq_false_iff_ne.mpr e1
                    have j1 : J < (a0.size : Int) := by have h1_ := HJ.out; have h2_ := HIL.out; have h3_ := HIq.out; omega
                    have j0 : 0 ≤ J := by have h1_ := HJ.out; omega
                    have HE := am_ ((altB_esc (s := a0) (i := i) (by have h1_ := HJ.out; omega) H92.out).symm.trans HA.out)
                    have HJL := am_ j1
                    have hx7 := bt_at a0 J
                    have p7 := eq_true j0
                    have q7 := eq_true j1
                    have hrg := bt_range a0 J
                    have h4q := four_of hrg.1 hrg.2
                    obtain ⟨Z, hZ⟩ : ∃ Z : Int, (Lib.indexByte (⟨#[42, 63, 124, 92]⟩ : ByteArray).data.toList (bt a0 J).toNat.toUInt8) = Z := ⟨_, rfl⟩
                    have HZZ := am_ (show strings_IndexByte.f (⟨#[42, 63, 124, 92]⟩ : ByteArray) (bt a0 J) = some Z from by unfold strings_IndexByte.f; rw [← hZ])
                    have h4z : decide (Z < 0) = !(okE (bt a0 J)) := by rw [← hZ]; exact h4q
                    clear j0 j1 e1 hrg h4q hZ
                    cases hk : okE (bt a0 J) with
                    | false =>
                      rw [hk] at h4z
                      have z0 : decide (Z < 0) = true := h4z
                      obtain rfl : r = false := by have h := HE.out; rw [HJ.out, hk, if_neg (by decide)] at h; exact h.symm
                      clear h4z hk
                      go_wp2_with (first | (go_at_call 59; refine (strings_IndexByte.calls (⟨#[42, 63, 124, 92]⟩ : ByteArray) (bt a0 J) Z _ HZZ.out).mono ?_; rintro e w' ⟨rfl, ⟨nd, rfl⟩⟩; have n0_ := am_ (pw_below_drewN HB.out nd); have n1_ := am_ (blk_drewN BK.out nd); have n2_ := am_ (Kd.R_drewN HO.out nd); have n3_ := am_ (Kd.R_drewN HI.out nd); clear HB BK HO HI; have HB := n0_; have BK := n1_; have HO := n2_; have HI := n3_; clear n0_ n1_ n2_ n3_))
                      go_ret2
                      first | exact ⟨_, rf_, bl_⟩ | exact ⟨⟨_, rf_⟩, bl_⟩
                    | true =>
                      rw [hk] at h4z
                      have z0 : decide (Z < 0) = false := h4z
                      have HK := am_ hk
                      clear h4z hk
                      have HS0 := am_ (show xs[((n : Int) - 1).toNat]? = some (Ai, m, ci) from by have h_ := HL.out.2.2.2.2.2.2.2.1; have h2_ := HL.out.2.1; rw [show ((n : Int) - 1).toNat = n - 1 from by omega]; exact h_)
                      go_wp2_with (first | (go_at_call 59; refine (strings_IndexByte.calls (⟨#[42, 63, 124, 92]⟩ : ByteArray) (bt a0 J) Z _ HZZ.out).mono ?_; rintro e w' ⟨rfl, ⟨nd, rfl⟩⟩; have n0_ := am_ (pw_below_drewN HB.out nd); have n1_ := am_ (blk_drewN BK.out nd); have n2_ := am_ (Kd.R_drewN HO.out nd); have n3_ := am_ (Kd.R_drewN HI.out nd); clear HB BK HO HI; have HB := n0_; have BK := n1_; have HO := n2_; have HI := n3_; clear n0_ n1_ n2_ n3_) | (go_at_call 58; refine (impl_put.calls (⟨bt a0 J, false, false⟩ : S70) gb g n c m ((n : Int) - 1) xs Ai ci ps w _ HB.out rfl (by have := HL.out; omega) (by have := HL.out; omega) HL.out.2.2.2.2.1 (by have := HL.out; omega) BK.out (cut_cell3 HO.out HS0.out) HO.out HI.out).mono ?_; rintro e w20 ⟨⟨v20, rfl⟩, hb, hbk, Aj, cj, hO, hI2⟩; have n0_ := am_ hb; have n1_ := am_ hbk; have n2_ := am_ hO; have n3_ := am_ hI2; clear HB BK HO HI; have HB := n0_; have BK := n1_; have HO := n2_; have HI := n3_; clear n0_ n1_ n2_ n3_ hb hbk hO hI2))
                      go_roundg (a0.size - (i + 2))
                      case measure => have h1_ := HIq.out; have h2_ := HL.out; have h3_ := HIL.out; omega
                      case rel => exact ⟨g, n, c, xs.set ((n : Int) - 1).toNat (Aj, m + 1, cj), Aj, m + 1, cj, ps ++ [(⟨bt a0 J, false, false⟩ : S70)], i + 2, (by first | rfl | (have h1_ := HIq.out; have h2_ := HL.out; have h3_ := HIL.out; have h4_ := HJ.out; have h5_ := HJL.out;  congr 1; unfold wrap64; omega)), ⟨by have h1_ := HIq.out; have h2_ := HL.out; have h3_ := HIL.out; have h4_ := HJ.out; have h5_ := HJL.out;  refine ⟨by rw [List.length_set]; omega, by omega, by omega, by omega, by rw [List.length_append, List.length_singleton]; omega, by omega, by omega, ?_, by omega⟩; rw [show ((n : Int) - 1).toNat = n - 1 from by omega]; exact List.getElem?_set_self (by omega)⟩, ⟨by have h := HE.out; rw [HJ.out, HK.out, if_pos rfl] at h; exact h⟩, BK, HNE, HO, HI, HB⟩
                · have c92b0 : (bt a0 I == 92) = false := beq_eq_false_iff_ne.mpr d92
                  have HN92 := am_ d92
                  clear d92 d124 d42 d63
                  have HS0 := am_ (show xs[((n : Int) - 1).toNat]? = some (Ai, m, ci) from by have h_ := HL.out.2.2.2.2.2.2.2.1; have h2_ := HL.out.2.1; rw [show ((n : Int) - 1).toNat = n - 1 from by omega]; exact h_)
                  go_wp2_with (first | (go_at_call 58; refine (impl_put.calls (⟨bt a0 I, false, false⟩ : S70) gb g n c m ((n : Int) - 1) xs Ai ci ps w _ HB.out rfl (by have := HL.out; omega) (by have := HL.out; omega) HL.out.2.2.2.2.1 (by have := HL.out; omega) BK.out (cut_cell3 HO.out HS0.out) HO.out HI.out).mono ?_; rintro e w20 ⟨⟨v20, rfl⟩, hb, hbk, Aj, cj, hO, hI2⟩; have n0_ := am_ hb; have n1_ := am_ hbk; have n2_ := am_ hO; have n3_ := am_ hI2; clear HB BK HO HI; have HB := n0_; have BK := n1_; have HO := n2_; have HI := n3_; clear n0_ n1_ n2_ n3_ hb hbk hO hI2))
                  go_roundg (a0.size - (i + 1))
                  case measure => have h1_ := HIq.out; have h2_ := HL.out; have h3_ := HIL.out; omega
                  case rel => exact ⟨g, n, c, xs.set ((n : Int) - 1).toNat (Aj, m + 1, cj), Aj, m + 1, cj, ps ++ [(⟨bt a0 I, false, false⟩ : S70)], i + 1, (by first | rfl | (have h1_ := HIq.out; have h2_ := HL.out; have h3_ := HIL.out;  congr 1; unfold wrap64; omega)), ⟨by have h1_ := HIq.out; have h2_ := HL.out; have h3_ := HIL.out;  refine ⟨by rw [List.length_set]; omega, by omega, by omega, by omega, by rw [List.length_append, List.length_singleton]; omega, by omega, by omega, ?_, by omega⟩; rw [show ((n : Int) - 1).toNat = n - 1 from by omega]; exact List.getElem?_set_self (by omega)⟩, ⟨(altB_on (by have h1_ := HIq.out; have h3_ := HIL.out; omega) (by rw [HIq.out]; exact HN92.out)).symm.trans HA.out⟩, BK, HNE, HO, HI, HB⟩
        · have c4b0 : decide (I < (a0.size : Int)) = false := decide_eq_false c4
          obtain rfl : r = true := by rw [← HA.out]; exact altB_end (by omega)
          clear c4 hI
          go_wp2
          go_ret2
          first | exact ⟨_, rf_, bl_⟩ | exact ⟨⟨_, rf_⟩, bl_⟩
    · rw [if_neg hz] at h
      cases h
def impl_GoodPattern.f (k : Nat) (a0 : ByteArray) : Option Bool := impl_alternatives.f k a0
theorem impl_GoodPattern.mono : ∀ a0 k, LeO (impl_GoodPattern.f k a0) (impl_GoodPattern.f (k + 1) a0) := by
  intro a0 k
  unfold impl_GoodPattern.f impl_alternatives.f
  exact LeO.bind (impl_printed.mono _ _ _) (fun _ => LeO.refl _)
set_option maxHeartbeats 4000000 in
theorem impl_GoodPattern.calls (k : Nat) (a0 : ByteArray) (r : Bool) (w : World) (h : impl_GoodPattern.f k a0 = some r) :
    Calls Try.prog 46 #[.string a0] w fun e w' => e = .returned (.bool r) ∧ Below w.heap.size w w' := by
  have H := am_ (show impl_alternatives.f k a0 = some r from h)
  clear h
  go_enter Try.func46, Try.ntmps46
  go_wp2_with (first | (go_at_call 55; refine (impl_alternatives.calls k a0 r _ H.out).mono ?_; rintro e w' ⟨v0, rfl, hb⟩))
  go_ret
  exact ⟨rfl, hb⟩

/-! ### laws_FnExactGoodPattern: function 14 -/
def laws_FnExactGoodPattern.f (k : Nat) (a0 : ByteArray) : Option (Bool) := if (a0.size : Int) > 1048576 then (some true) else ((spec_GoodPattern.f k a0).bind fun t1001 => ((impl_GoodPattern.f k a0).bind fun t1002 => (if (t1002 != t1001) = true then (none) else (some true))))
theorem laws_FnExactGoodPattern.mono : ∀ a0 k, LeO (laws_FnExactGoodPattern.f k a0) (laws_FnExactGoodPattern.f (k + 1) a0) := by
 intro a0 k
 unfold laws_FnExactGoodPattern.f
 repeat' first
   | with_reducible first | exact impl_GoodPattern.mono _ _ | exact spec_GoodPattern.mono _ _ | exact LeO.refl _ | exact LeO.none _ | refine LeO.ite ?_ ?_ | refine LeO.bind ?_ (fun _ => ?_)
   | exact impl_GoodPattern.mono _ _
   | exact spec_GoodPattern.mono _ _
   | exact LeO.none _
   | refine LeO.ite ?_ ?_
   | refine LeO.bind ?_ (fun _ => ?_)
set_option maxHeartbeats 8000000 in
set_option maxRecDepth 100000 in
theorem laws_FnExactGoodPattern.calls (k : Nat) (a0 : ByteArray) (r : Bool) (w : World) (h : laws_FnExactGoodPattern.f k a0 = some r) :
  Calls Try.prog 14 #[.string a0] w fun e w' => e = .returned (.bool r) ∧ Below w.heap.size w w' := by
 have HB := am_ (Below.refl w.heap.size w)
 have H : (if (a0.size : Int) > 1048576 then (some true) else ((spec_GoodPattern.f k a0).bind fun t1001 => ((impl_GoodPattern.f k a0).bind fun t1002 => (if (t1002 != t1001) = true then (none) else (some true))))) = some r := h
 clear h
 by_cases c2 : (a0.size : Int) > 1048576
 ·rw [if_pos c2] at H
  have c2b0 : decide (1048576 < (a0.size : Int)) = true := decide_eq_true c2
  have c2b1 : decide (1048576 < a0.size) = true := decide_eq_true (by omega)
  clear c2
  obtain rfl := Option.some.inj H
  go_enter Try.func14, Try.ntmps14
  go_wp2
  go_ret
  exact ⟨rf_, bl_⟩
 ·rw [if_neg c2] at H
  have c2b0 : decide (1048576 < (a0.size : Int)) = false := decide_eq_false c2
  have c2b1 : decide (1048576 < a0.size) = false := decide_eq_false (by omega)
  clear c2
  replace H := Option.bind_eq_some_iff.mp H
  obtain ⟨t1001, A30, H⟩ := H
  replace H : ((impl_GoodPattern.f k a0).bind fun t1002 => (if (t1002 != t1001) = true then (none) else (some true))) = some r := H
  have A3 := am_ A30
  clear A30
  replace H := Option.bind_eq_some_iff.mp H
  obtain ⟨t1002, A40, H⟩ := H
  replace H : (if (t1002 != t1001) = true then (none) else (some true)) = some r := H
  have A4 := am_ A40
  clear A40
  by_cases c5 : (t1002 != t1001) = true
  ·rw [if_pos c5] at H
   exact absurd H (by simp)
  ·rw [if_neg c5] at H
   have c5b0 : (t1002 != t1001) = false := by simpa using c5
   (try (have c5b1 : decide (t1002 = t1001) = true := by simpa using c5))
   (try (have c5b2 : (t1002 == t1001) = true := by simpa using c5))
   clear c5
   obtain rfl := Option.some.inj H
   go_enter Try.func14, Try.ntmps14
   go_wp2_with (first | ((with_reducible refine gate_callee (f := 45) rfl ?_); refine goesL_ (some 9) rfl rfl Try.func45 (by kernel_rfl) rfl #[.string a0] rfl ag_ ?_; (with_reducible refine (spec_GoodPattern.calls k a0 t1001 _ A3.out).mono ?_); rintro e w6 ⟨rfl, hb⟩; refine ⟨_, rfl, ?_⟩; have n0_ := am_ (below_step bl_ hb); clear HB; have HB := n0_; clear n0_; (try clear hb); (try clear hb2); (try clear hk); (try clear hi)) | ((with_reducible refine gate_callee (f := 46) rfl ?_); refine goesL_ (some 11) rfl rfl Try.func46 (by kernel_rfl) rfl #[.string a0] rfl ag_ ?_; (with_reducible refine (impl_GoodPattern.calls k a0 t1002 _ A4.out).mono ?_); rintro e w7 ⟨rfl, hb⟩; refine ⟨_, rfl, ?_⟩; have n0_ := am_ (below_step bl_ hb); clear HB; have HB := n0_; clear n0_; (try clear hb); (try clear hb2); (try clear hk); (try clear hi)))
   go_ret
   exact ⟨rf_, bl_⟩

/-- THE ONE PURE STATEMENT of laws_FnExactGoodPattern: yours. -/
def laws_FnExactGoodPattern.Pure : Prop := ∀ (a0 : ByteArray), a0.size ≤ 140737488351232 → ∃ k, laws_FnExactGoodPattern.f k a0 = some true
theorem laws_FnExactGoodPattern.walk (P : laws_FnExactGoodPattern.Pure) (a0 : ByteArray) (w : World) (w0 : a0.size ≤ 140737488351232) :
  Calls Try.prog 14 #[.string a0] w fun e w' => e = .returned (.bool true) ∧ Below w.heap.size w w' := by
 obtain ⟨k, h⟩ := P a0 w0
 refine (laws_FnExactGoodPattern.calls k a0 true w h).mono ?_
 rintro e w' ⟨rfl, hd⟩
 exact ⟨rfl, hd⟩

end Go.Proofs.Ytijdnbenofnglaa.Pr
