/- Functions of the given program as plain Lean functions, and that the machine's calls come to them; written by a program of this session; no condition but those that each theorem states. -/
import Derived.Test.YtknlgignjbghkaaWRepsOne
import Derived.Test.YtknlgignjbghkaaPrx0
import Derived.Test.YtknlgignjbghkaaPrxg61164n1
namespace Go.Proofs.Ytknlgignjbghkaa.Pr
open Go.RowKit Go.Proofs.YtknlgignjbghkaaW.PrintWords Go.Proofs.YtknlgignjbghkaaW.PrintLast Go.Proofs.YtknlgignjbghkaaW.PrintMore
attribute [local go_sem] max2_int min2_int max_two min_two max_three min_three max_four min_four   -- for this text's walks alone
set_option linter.unusedVariables false
set_option linter.unusedSimpArgs false

/-! ### laws_toSeriesS: function 15 -/
def laws_toSeriesS.l0 : Nat → List (S98) → List (S83) → Int → Option ((List (S83)))
 | 0, _, _, _ => none
 | k + 1, x0, x3, x4 => if x4 < (x0.length : Int) then (if 0 ≤ x4 then ((laws_toSeries.f k ((rd_T98 x0 x4).f0) ((rd_T98 x0 x4).f1)).bind fun bt1005 => (if x4 < (x3.length : Int) then (laws_toSeriesS.l0 k x0 (x3.set (x4 : Int).toNat (⟨bt1005.1, bt1005.2⟩ : S83)) (wrap64 (x4 + 1))) else (none))) else (none)) else (some x3)
def laws_toSeriesS.f (k : Nat) (l0 : List (S98)) : Option ((List (S83))) := if 0 ≤ (l0.length : Int) then (if ((l0.length : Int) : Int).toNat ≤ 5864062014805 then (laws_toSeriesS.l0 k l0 (List.replicate ((l0.length : Int) : Int).toNat z83) 0) else (none)) else (none)
theorem laws_toSeriesS.mono_l : ∀ k, (∀ y0 y1 y2, LeO (laws_toSeriesS.l0 k y0 y1 y2) (laws_toSeriesS.l0 (k + 1) y0 y1 y2))
 | 0 => fun _ _ _ r h => by simp [laws_toSeriesS.l0] at h
 | k + 1 => by
  have ih0 := laws_toSeriesS.mono_l k
  ·intro y0 y1 y2
   unfold laws_toSeriesS.l0
   repeat' first
   | with_reducible first | exact ih0 _ _ _ | exact laws_toSeries.mono _ _ _ | exact LeO.refl _ | exact LeO.none _ | refine LeO.ite ?_ ?_ | refine LeO.bind ?_ (fun _ => ?_)
   | exact ih0 _ _ _
   | exact laws_toSeries.mono _ _ _
   | exact LeO.none _
   | refine LeO.ite ?_ ?_
   | refine LeO.bind ?_ (fun _ => ?_)
theorem laws_toSeriesS.mono : ∀ a0 k, LeO (laws_toSeriesS.f k a0) (laws_toSeriesS.f (k + 1) a0) := by
 intro a0 k
 have ih0 := laws_toSeriesS.mono_l k
 unfold laws_toSeriesS.f
 repeat' first
   | with_reducible first | exact ih0 _ _ _ | exact laws_toSeries.mono _ _ _ | exact LeO.refl _ | exact LeO.none _ | refine LeO.ite ?_ ?_ | refine LeO.bind ?_ (fun _ => ?_)
   | exact ih0 _ _ _
   | exact laws_toSeries.mono _ _ _
   | exact LeO.none _
   | refine LeO.ite ?_ ?_
   | refine LeO.bind ?_ (fun _ => ?_)
set_option maxHeartbeats 8000000 in
set_option maxRecDepth 100000 in
theorem laws_toSeriesS.calls (k : Nat) (A0 : Option Addr) (c0 : Nat) (l0 : List (S98)) (r : List (S83)) (w : World) (hr0 : Kd.C k98 w A0 l0.length l0) (hc0 : l0.length ≤ c0) (h : laws_toSeriesS.f k l0 = some r) :
  Calls Try.prog 15 #[.slice A0 l0.length c0] w fun e w' => ∃ v0_ : Value, e = .returned (v0_) ∧ Kd.S k83 83 w' w.heap.size (fun _ => True) v0_ r ∧ Below w.heap.size w w' := by
 have hu98 := Try.underlying98
 have hu83 := Try.underlying83
 have HR0 := am_ hr0
 have HC0 := am_ hc0
 clear hr0 hc0
 have HB := am_ (Below.refl w.heap.size w)
 have H : (if 0 ≤ (l0.length : Int) then (if ((l0.length : Int) : Int).toNat ≤ 5864062014805 then (laws_toSeriesS.l0 k l0 (List.replicate ((l0.length : Int) : Int).toNat z83) 0) else (none)) else (none)) = some r := h
 clear h
 by_cases c2 : 0 ≤ (l0.length : Int)
 ·rw [if_pos c2] at H
  have c2b0 := eq_true c2
  have c2b1 : decide (0 ≤ (l0.length : Int)) = true := decide_eq_true c2
  clear c2
  by_cases c3 : ((l0.length : Int) : Int).toNat ≤ 5864062014805
  ·rw [if_pos c3] at H
   have c3b0 := eq_true c3
   have c3b1 : decide (((l0.length : Int) : Int).toNat ≤ 5864062014805) = true := decide_eq_true c3
   clear c3
   obtain ⟨y1001, hy1001⟩ : ∃ y_ : List (S83), y_ = (List.replicate ((l0.length : Int) : Int).toNat z83) := ⟨_, rfl⟩
   replace H : (laws_toSeriesS.l0 k l0 y1001 0) = some r := by first | (rw [hy1001]; with_reducible exact H) | (have H2_ := (Option.bind_some _ _).symm.trans H; rw [hy1001]; with_reducible exact H2_) | (have H2_ := (Option.bind_some _ _).symm.trans H; with_reducible exact H2_) | with_reducible exact H | (rw [hy1001]; exact H) | exact H
   have Ny1001 := am_ hy1001
   clear hy1001
   have H' := am_ H
   clear H
   go_enter Try.func15, Try.ntmps15
   go_wp2_with (first | ((with_reducible refine gate_dst (N := 7) rfl ?_); refine Kd.S_make k83 _ 83 rfl (N := 7) rfl 28 _ _ rfl (l0.length : Int) rfl rfl Try.underlying28 (.agg #[(.slice none 0 0), (.slice none 0 0)]) 48 info83 rfl (by decide) (by omega) z83 (ok := fun _ => True) (okp := fun _ => True) (k83_mkM _ _ _ z83 (Kd.R_nil _ _ _ _ _) (Kd.R_nil _ _ _ _ _)) (fun _ hk => hk) trivial (od_) (Nat.le_trans (Nat.mul_le_mul_right _ (od_ : (l0.length : Int).toNat ≤ 5864062014805)) (by omega)) (Below.refl _ _) (Nat.le_refl _) ?_; intro v1002 w4 ho5 hb hg_ hnew_; clear hg_ hnew_; (first | rw [← Ny1001.out] at ho5 | (simp only [Int.reduceToNat] at ho5; rw [← Ny1001.out] at ho5)); have HO1003 := am_ (Kd.S_lower ho5 (below_size bl_)); replace HB := am_ (below_step bl_ hb); clear hb ho5))
   go_loopg [4] k (fun kq v4 w' => ∃ (x3_1 : List (S83)) (x4_1 : Int), v4 = .int .i64 x4_1 ∧ Aside0 (laws_toSeriesS.l0 kq l0 x3_1 x4_1 = some r) ∧ Aside0 (kq ≤ k) ∧ Aside0 (Kd.S k83 83 w' w.heap.size (fun _ => True) v1002 x3_1) ∧ Aside0 (Below w.heap.size w w'))
   case atStart => exact ⟨(y1001), (0), rs_, H', ⟨Nat.le_refl _⟩, ⟨by (with_reducible repeat (first | apply Kd.S_alloc | apply Kd.S_drewN | apply Kd.S_drew)); exact HO1003.out⟩, ⟨bl_⟩⟩
   case round =>
    clear H'
    try clear c1
    try clear c2
    try clear c2b0
    try clear c2b1
    try clear p2
    try clear c3
    try clear c3b0
    try clear c3b1
    obtain ⟨x3_1, x4_1, rfl, HA, HK1, HO_3, HB⟩ := hrel
    cases gk with
    | zero => exact absurd HA.out (by simp [laws_toSeriesS.l0])
    | succ k1 =>
     have H := HA.out
     clear HA
     simp only [laws_toSeriesS.l0] at H
     by_cases c6 : x4_1 < (l0.length : Int)
     ·rw [if_pos c6] at H
      have c6b0 : decide (x4_1 < (l0.length : Int)) = true := decide_eq_true c6
      clear c6
      by_cases c7 : 0 ≤ x4_1
      ·rw [if_pos c7] at H
       have c7b0 : decide (0 ≤ x4_1) = true := decide_eq_true c7
       clear c7
       replace H := Option.bind_eq_some_iff.mp H
       obtain ⟨⟨t1005, t1008⟩, A80, H⟩ := H
       replace H : (if x4_1 < (x3_1.length : Int) then (laws_toSeriesS.l0 k1 l0 (x3_1.set (x4_1 : Int).toNat (⟨t1005, t1008⟩ : S83)) (wrap64 (x4_1 + 1))) else (none)) = some r := H
       have A8 := am_ A80
       clear A80
       by_cases c9 : x4_1 < (x3_1.length : Int)
       ·rw [if_pos c9] at H
        have c9b0 : decide (x4_1 < (x3_1.length : Int)) = true := decide_eq_true c9
        clear c9
        obtain ⟨y1011, hy1011⟩ : ∃ y_ : List (S83), y_ = (x3_1.set (x4_1 : Int).toNat (⟨t1005, t1008⟩ : S83)) := ⟨_, rfl⟩
        replace H : (laws_toSeriesS.l0 k1 l0 y1011 (wrap64 (x4_1 + 1))) = some r := by first | (rw [hy1011]; with_reducible exact H) | (have H2_ := (Option.bind_some _ _).symm.trans H; rw [hy1011]; with_reducible exact H2_) | (have H2_ := (Option.bind_some _ _).symm.trans H; with_reducible exact H2_) | with_reducible exact H | (rw [hy1011]; exact H) | exact H
        have Ny1011 := am_ hy1011
        clear hy1011
        have H' := am_ H
        clear H
        have p1004 : 0 ≤ (x4_1 : Int) := od_
        have q1004 : x4_1 < (l0.length : Int) := od_
        obtain ⟨ad1004, A1004_0, c1004_0, A1004_1, c1004_1, e1004, hx1004_0, hx1004_1, hl1004_0, hi1004_0, hl1004_1, hi1004_1⟩ := at_T98 HR0.out x4_1 p1004 q1004
        cases e1004
        replace hx1004_0 := kp_ HB hx1004_0
        replace hx1004_1 := kp_ HB hx1004_1
        have HR1004_0 := am_ hi1004_0
        have HC1004_0 := am_ hl1004_0
        clear hi1004_0 hl1004_0
        have HR1004_1 := am_ hi1004_1
        have HC1004_1 := am_ hl1004_1
        clear hi1004_1 hl1004_1
        replace p1004 := eq_true p1004
        replace q1004 := eq_true q1004
        go_wp2_with (first | ((with_reducible refine gate_callee (f := 60) rfl ?_); refine goesL_ (some 20) rfl rfl Try.func60 (by kernel_rfl) rfl #[.agg #[.slice A1004_0 ((rd_T98 l0 x4_1).f0).length c1004_0, .slice A1004_1 ((rd_T98 l0 x4_1).f1).length c1004_1]] rfl ag_ ?_; (with_reducible refine (laws_toSeries.calls k1 _ _ ((rd_T98 l0 x4_1).f0) _ _ ((rd_T98 l0 x4_1).f1) t1005 t1008 _ ?side1 ?side2 ?side3 ?side4 A8.out).mono ?_); (case side1 => exact cc_ (Kd.C_below HR1004_0.out HB.out)); (case side2 => exact HC1004_0.out); (case side3 => exact cc_ (Kd.C_below HR1004_1.out HB.out)); (case side4 => exact HC1004_1.out); rintro e w11 ⟨v1006, v1009, rfl, ho0, ho1, hb⟩; refine ⟨_, rfl, ?_⟩; have HO1007 := am_ (Kd.R_lower ho0 (below_size bl_)); have HO1010 := am_ (Kd.R_lower ho1 (below_size bl_)); replace HO_3 := am_ (Kd.S_mono (Kd.S_told (Kd.S_told (Kd.S_old (by (with_reducible repeat (first | apply Kd.S_alloc | apply Kd.S_drewN | apply Kd.S_drew)); exact HO_3.out) hb) (Kd.R_base ho0)) (Kd.R_base ho1)) (fun _ h_ => h_.1)); replace HB := am_ (below_step bl_ hb); (try clear hb); (try clear hb2); (try clear hk); (try clear hi); (try clear ho0); (try clear ho1); have p10 : 0 ≤ (x4_1 : Int) := od_; have q10 : (x4_1 : Int) < ((x3_1.length : Int) : Int) := od_; obtain ⟨go10, co10, eo10, gb10, gl10, cl10, HG10⟩ := Kd.S_form HO_3.out (by omega); (first | cases eo10 | (injection eo10 with ea_ en_ ec_; (first | subst ea_ | (injection ea_ with ea_; subst ea_)); subst ec_; clear en_)); have GB10 := am_ gb10; have GG10 := am_ HG10; clear gb10 gl10 HG10; obtain ⟨_, ce10, hcl10, hM10, hcc10, hfr10, _, _⟩ := Kd.S_elem HO_3.out z83 (x4_1 : Int) p10 q10; obtain ⟨ve10_0, ve10_1, rfl, ge10_0, ge10_1⟩ := k83_openM hM10; have hx10_0 : w11.cell? ⟨go10, (x4_1 : Int).toNat * 2, none⟩ = some (ve10_0) := hcc10 0 _ rfl; have hx10_1 : w11.cell? ⟨go10, (x4_1 : Int).toNat * 2 + 1, none⟩ = some (ve10_1) := hcc10 1 _ rfl; have hf10_0 : w11.frozen? ⟨go10, (x4_1 : Int).toNat * 2, none⟩ = false := hfr10 0; have hf10_1 : w11.frozen? ⟨go10, (x4_1 : Int).toNat * 2 + 1, none⟩ = false := hfr10 1; clear hcl10 hcc10 hfr10 hM10; replace p10 := eq_true p10; replace q10 := eq_true q10; have n_ := am_ (Kd.S_mono (ok' := (fun k_ => some k_ ≠ (v1006 : Value).ownBlock ∧ some k_ ≠ (v1009 : Value).ownBlock)) HO_3.out (fun k_ hk => ⟨hk.1.2, hk.2⟩)); clear HO_3; have HO_3 := n_; clear n_; have HX12 := am_ (show Kd.S k83 83 w11 w.heap.size (fun k_ => ((fun _ => True)) k_ ∧ ¬ ((fun k_ => some k_ = (v1006 : Value).ownBlock ∨ some k_ = (v1009 : Value).ownBlock)) k_) (.slice (some ⟨go10, 0, none⟩) x3_1.length co10) x3_1 from (by (with_reducible repeat (first | apply Kd.S_alloc | apply Kd.S_drewN | apply Kd.S_drew)); exact Kd.S_mono HO_3.out (fun k_ hk => ⟨trivial, fun e_ => e_.elim (fun h_ => hk.1 h_) (fun h_ => hk.2 h_)⟩))); obtain ⟨oki12, ce12, hcl12, hM12, hcc12, hfr12, hoki12, hH12⟩ := Kd.S_elem HX12.out z83 (x4_1 : Int) (od_) (by have h_ : (x4_1 : Int) < ((x3_1.length : Int) : Int) := od_; first | exact h_ | (have e_ := (Kd.S_reads' HO_3.out).1; omega) | simpa using h_); obtain ⟨ve12_0, ve12_1, rfl, ge12_0, ge12_1⟩ := k83_openM hM12; have HP12 := Kd.S_seg hH12 (od_) (by have h_ : (x4_1 : Int) < ((x3_1.length : Int) : Int) := od_; first | exact h_ | (have e_ := (Kd.S_reads' HO_3.out).1; omega) | simpa using h_) (seg := [v1006, v1009]) (j := 0) (show 2 ≤ 2 from by decide) (x' := (⟨t1005, t1008⟩ : S83)) (k83_mkM _ _ _ (⟨t1005, t1008⟩ : S83) (Kd.R_mono (Kd.R_tight rfl (Kd.R_mono (ok' := fun k_ => ((fun _ => True)) k_ ∧ k_ ≠ go10) (Kd.R_apart' (HO1007.out) (Kd.S_typed HO_3.out) (by decide)) (fun k_ hk => ⟨trivial, fun e_ => (hk.2) (by rw [e_]; rfl)⟩))) (fun _ h_ => Or.inr (Or.inl h_))) (Kd.R_mono (Kd.R_tight rfl (Kd.R_mono (ok' := fun k_ => ((fun _ => True)) k_ ∧ k_ ≠ go10) (Kd.R_apart' (HO1010.out) (Kd.S_typed HO_3.out) (by decide)) (fun k_ hk => ⟨trivial, fun e_ => (hk.2) (by rw [e_]; rfl)⟩))) (fun _ h_ => Or.inr (Or.inr (h_))))) (fun _ hk => hk) (fun k_ hk_ => hk_.elim (fun h_ => ((Kd.R_mono (ok' := fun k_ => ((fun _ => True)) k_ ∧ k_ ≠ go10) (Kd.R_apart' (HO1007.out) (Kd.S_typed HO_3.out) (by decide)) (fun k_ hk => ⟨trivial, fun e_ => (hk.2) (by rw [e_]; rfl)⟩))).1 k_ h_.symm) (fun h_ => ((Kd.R_mono (ok' := fun k_ => ((fun _ => True)) k_ ∧ k_ ≠ go10) (Kd.R_apart' (HO1010.out) (Kd.S_typed HO_3.out) (by decide)) (fun k_ hk => ⟨trivial, fun e_ => (hk.2) (by rw [e_]; rfl)⟩))).1 k_ h_.symm)); have hx12_0 := hcc12 0 _ rfl; (try simp only [show (k83).sz = 2 from rfl, Nat.mul_one, Nat.add_zero] at hx12_0); have hf12_0 := hfr12 0; (try simp only [show (k83).sz = 2 from rfl, Nat.mul_one, Nat.add_zero] at hf12_0); have hx12_1 := hcc12 1 _ rfl; (try simp only [show (k83).sz = 2 from rfl, Nat.mul_one, Nat.add_zero] at hx12_1); have hf12_1 := hfr12 1; (try simp only [show (k83).sz = 2 from rfl, Nat.mul_one, Nat.add_zero] at hf12_1); clear hcl12 hcc12 hfr12 hM12 hoki12 hH12) | ((with_reducible refine gate_store (t := 83) (p := 21) rfl ?_); refine store_event (t := 83) (p := 21) (v := ?vo_w13) (w1 := ((w11.setCell ⟨go10, (x4_1 : Int).toNat * 2, none⟩ (v1006)).setCell ⟨go10, (x4_1 : Int).toNat * 2 + 1, none⟩ (v1009))) ?hg ?ho ?hn ?hr ?_; (case ho => rfl); (case hg => rfl); (case hn => rfl); (case hr => first | (go_simp; done) | (go_simp; rfl) | ((try (obtain ⟨_, _, e_⟩ := Kd.R_slice HO1003.out; subst e_)); (try (obtain ⟨_, _, e_⟩ := Kd.R_slice HO1007.out; subst e_)); (try (obtain ⟨_, _, e_⟩ := Kd.R_slice HO1010.out; subst e_)); go_simp; first | done | rfl)); intro w13 hw; have hg : w11.grownBy w13 (some go10) := (by rw [hw]; exact HP12.2); have hp_ : Kd.S k83 83 w13 w.heap.size (fun _ => True) (.slice (some ⟨go10, 0, none⟩) x3_1.length co10) y1011 := (by rw [hw, Ny1011.out]; exact HP12.1); clear HP12; have n0_ := am_ (hp_); have n1_ := am_ ((by rw [hw]; exact below_set (below_set (HB.out) GB10.out) GB10.out : Below w.heap.size w w13)); clear HO_3; clear HB; clear HO1007; clear HO1010; have HO_3 := n0_; have HB := n1_; clear n0_ n1_; clear hg hw hp_))
        go_roundg k1
        case measure => have := HK1.out; omega
        case rel => exact ⟨(y1011), (wrap64 (x4_1 + 1)), rs_, H', ⟨by have := HK1.out; omega⟩, ⟨by (with_reducible repeat (first | apply Kd.S_alloc | apply Kd.S_drewN | apply Kd.S_drew)); exact HO_3.out⟩, ⟨bl_⟩⟩
       ·rw [if_neg c9] at H
        exact absurd H (by simp)
      ·rw [if_neg c7] at H
       exact absurd H (by simp)
     ·rw [if_neg c6] at H
      have c6b0 : decide (x4_1 < (l0.length : Int)) = false := decide_eq_false c6
      clear c6
      obtain rfl := Option.some.inj H
      go_wp2
      go_ret
      exact ⟨_, rf_, by (with_reducible repeat (first | apply Kd.S_alloc | apply Kd.S_drewN | apply Kd.S_drew)); exact HO_3.out, bl_⟩
  ·rw [if_neg c3] at H
   exact absurd H (by simp)
 ·rw [if_neg c2] at H
  exact absurd H (by simp)

/-! ### impl_isTime: function 52 -/
def impl_isTime.f (a0 : Int) : Option (Bool) := if a0 ≥ 0 then (some (decide (a0 ≤ 1000000000000))) else (some false)
set_option maxHeartbeats 8000000 in
set_option maxRecDepth 100000 in
theorem impl_isTime.calls (a0 : Int) (r : Bool) (w : World) (h : impl_isTime.f a0 = some r) :
  Calls Try.prog 52 #[.int .i64 a0] w fun e w' => e = .returned (.bool r) ∧ Drawn0 w w' := by
 have H : (if a0 ≥ 0 then (some (decide (a0 ≤ 1000000000000))) else (some false)) = some r := h
 clear h
 by_cases c2 : a0 ≥ 0
 ·rw [if_pos c2] at H
  have c2b0 : decide (0 ≤ a0) = true := decide_eq_true c2
  clear c2
  obtain rfl := Option.some.inj H
  go_enter Try.func52, Try.ntmps52
  go_wp2
  go_ret
  exact ⟨by first | rfl | (simp; done) | (simp [*]; done), by repeat (first | exact Drawn0.refl _ | apply Drawn0.step)⟩
 ·rw [if_neg c2] at H
  have c2b0 : decide (0 ≤ a0) = false := decide_eq_false c2
  clear c2
  obtain rfl := Option.some.inj H
  go_enter Try.func52, Try.ntmps52
  go_wp2
  go_ret
  exact ⟨by first | rfl | (simp; done) | (simp [*]; done), by repeat (first | exact Drawn0.refl _ | apply Drawn0.step)⟩

/-! ### cmp_Or_int: function 103 -/
def cmp_Or_int.l0 : Nat → Int → List Int → Int → Int → Option (Int)
 | 0, _, _, _, _ => none
 | k + 1, x3, x6, x7, x8 => if x8 < x7 then (if 0 ≤ x8 then (if x8 < (x6.length : Int) then (if (rd x6 x8) = x3 then (cmp_Or_int.l0 k x3 x6 x7 (wrap64 (x8 + 1))) else (some (rd x6 x8))) else (none)) else (none)) else (some x3)
def cmp_Or_int.f (k : Nat) (l0 : List Int) : Option (Int) := cmp_Or_int.l0 k 0 l0 (l0.length : Int) 0
theorem cmp_Or_int.mono_l : ∀ k, (∀ y0 y1 y2 y3, LeO (cmp_Or_int.l0 k y0 y1 y2 y3) (cmp_Or_int.l0 (k + 1) y0 y1 y2 y3))
 | 0 => fun _ _ _ _ r h => by simp [cmp_Or_int.l0] at h
 | k + 1 => by
  have ih0 := cmp_Or_int.mono_l k
  ·intro y0 y1 y2 y3
   unfold cmp_Or_int.l0
   repeat' first
   | with_reducible first | exact ih0 _ _ _ _ | exact LeO.refl _ | exact LeO.none _ | refine LeO.ite ?_ ?_ | refine LeO.bind ?_ (fun _ => ?_)
   | exact ih0 _ _ _ _
   | exact LeO.none _
   | refine LeO.ite ?_ ?_
   | refine LeO.bind ?_ (fun _ => ?_)
theorem cmp_Or_int.mono : ∀ a0 k, LeO (cmp_Or_int.f k a0) (cmp_Or_int.f (k + 1) a0) := by
 intro a0 k
 have ih0 := cmp_Or_int.mono_l k
 unfold cmp_Or_int.f
 repeat' first
   | with_reducible first | exact ih0 _ _ _ _ | exact LeO.refl _ | exact LeO.none _ | refine LeO.ite ?_ ?_ | refine LeO.bind ?_ (fun _ => ?_)
   | exact ih0 _ _ _ _
   | exact LeO.none _
   | refine LeO.ite ?_ ?_
   | refine LeO.bind ?_ (fun _ => ?_)
set_option maxHeartbeats 8000000 in
set_option maxRecDepth 100000 in
theorem cmp_Or_int.calls (k : Nat) (A0 : Option Addr) (c0 : Nat) (l0 : List Int) (r : Int) (w : World) (hr0 : Kd.C (Kd.int .i64) w A0 l0.length l0) (hc0 : l0.length ≤ c0) (h : cmp_Or_int.f k l0 = some r) :
  Calls Try.prog 103 #[.slice A0 l0.length c0] w fun e w' => e = .returned (.int .i64 r) ∧ Drawn0 w w' := by
 have HR0 := am_ hr0
 have HC0 := am_ hc0
 clear hr0 hc0
 have H : (cmp_Or_int.l0 k 0 l0 (l0.length : Int) 0) = some r := h
 clear h
 have H' := am_ H
 clear H
 go_enter Try.func103, Try.ntmps103
 go_wp2
 go_loopg [8] k (fun kq v8 w' => ∃ (x8_1 : Int), v8 = .int .i64 x8_1 ∧ Aside0 (cmp_Or_int.l0 kq 0 l0 (l0.length : Int) x8_1 = some r) ∧ Aside0 (kq ≤ k) ∧ Drawn0 w w')
 case atStart => exact ⟨(0), rs_, H', ⟨Nat.le_refl _⟩, by repeat (first | exact Drawn0.refl _ | apply Drawn0.step)⟩
 case round =>
  clear H'
  try clear c1
  obtain ⟨x8_1, rfl, HA, HK1, ⟨m1, rfl⟩⟩ := hrel
  cases gk with
  | zero => exact absurd HA.out (by simp [cmp_Or_int.l0])
  | succ k1 =>
   have H := HA.out
   clear HA
   simp only [cmp_Or_int.l0] at H
   by_cases c2 : x8_1 < (l0.length : Int)
   ·rw [if_pos c2] at H
    have c2b0 : decide (x8_1 < (l0.length : Int)) = true := decide_eq_true c2
    clear c2
    by_cases c3 : 0 ≤ x8_1
    ·rw [if_pos c3] at H
     have c3b0 : decide (0 ≤ x8_1) = true := decide_eq_true c3
     clear c3
     by_cases c4 : x8_1 < (l0.length : Int)
     ·rw [if_pos c4] at H
      have c4b0 : decide (x8_1 < (l0.length : Int)) = true := decide_eq_true c4
      clear c4
      by_cases c5 : (rd l0 x8_1) = 0
      ·rw [if_pos c5] at H
       have c5b0 : ((rd l0 x8_1) == 0) = true := beq_iff_eq.mpr c5
       have c5b1 : ((rd l0 x8_1) != 0) = false := bne_eq_false_iff_eq.mpr c5
       clear c5
       have H' := am_ H
       clear H
       have p1001 : 0 ≤ (x8_1 : Int) := od_
       have q1001 : x8_1 < (l0.length : Int) := od_
       obtain ⟨ad1001, e1001, hx1001_0⟩ := Kd.at_int HR0.out x8_1 p1001 q1001
       cases e1001
       replace p1001 := eq_true p1001
       replace q1001 := eq_true q1001
       go_wp2
       go_roundg k1
       case measure => have := HK1.out; omega
       case rel => exact ⟨(wrap64 (x8_1 + 1)), rs_, H', ⟨by have := HK1.out; omega⟩, by repeat (first | exact Drawn0.refl _ | apply Drawn0.step)⟩
      ·rw [if_neg c5] at H
       have c5b0 : ((rd l0 x8_1) == 0) = false := beq_eq_false_iff_ne.mpr c5
       have c5b1 : ((rd l0 x8_1) != 0) = true := bne_iff_ne.mpr c5
       obtain rfl := Option.some.inj H
       have p1001 : 0 ≤ (x8_1 : Int) := od_
       have q1001 : x8_1 < (l0.length : Int) := od_
       obtain ⟨ad1001, e1001, hx1001_0⟩ := Kd.at_int HR0.out x8_1 p1001 q1001
       cases e1001
       replace p1001 := eq_true p1001
       replace q1001 := eq_true q1001
       go_wp2
       go_ret
       exact ⟨by first | rfl | (simp; done) | (simp [*]; done), by repeat (first | exact Drawn0.refl _ | apply Drawn0.step)⟩
     ·rw [if_neg c4] at H
      exact absurd H (by simp)
    ·rw [if_neg c3] at H
     exact absurd H (by simp)
   ·rw [if_neg c2] at H
    have c2b0 : decide (x8_1 < (l0.length : Int)) = false := decide_eq_false c2
    clear c2
    obtain rfl := Option.some.inj H
    go_wp2
    go_ret
    exact ⟨by first | rfl | (simp; done) | (simp [*]; done), by repeat (first | exact Drawn0.refl _ | apply Drawn0.step)⟩

/-! ### cmp_isNaN_string: function 150 -/
def cmp_isNaN_string.f (a0 : ByteArray) : Option (Bool) := some (a0.toList != a0.toList)
set_option maxHeartbeats 8000000 in
set_option maxRecDepth 100000 in
theorem cmp_isNaN_string.calls (a0 : ByteArray) (r : Bool) (w : World) (h : cmp_isNaN_string.f a0 = some r) :
  Calls Try.prog 150 #[.string a0] w fun e w' => e = .returned (.bool r) ∧ Drawn0 w w' := by
 have H : (some (a0.toList != a0.toList)) = some r := h
 clear h
 obtain rfl := Option.some.inj H
 go_enter Try.func150, Try.ntmps150
 go_wp2
 go_ret
 exact ⟨by first | rfl | (simp; done) | (simp [*]; done), by repeat (first | exact Drawn0.refl _ | apply Drawn0.step)⟩

/-! ### cmp_Compare_string: function 104 -/
def cmp_Compare_string.f (a0 : ByteArray) (a1 : ByteArray) : Option (Int) := (cmp_isNaN_string.f a0).bind fun t1001 => ((cmp_isNaN_string.f a1).bind fun t1002 => (if t1001 = true then (if t1002 = true then (some 0) else (some (-1))) else (if t1002 = true then (some 1) else (if (Op.bytesLess a0.toList a1.toList) = true then (some (-1)) else (if (Op.bytesLess a1.toList a0.toList) = true then (some 1) else (some 0))))))
set_option maxHeartbeats 8000000 in
set_option maxRecDepth 100000 in
theorem cmp_Compare_string.calls (a0 : ByteArray) (a1 : ByteArray) (r : Int) (w : World) (h : cmp_Compare_string.f a0 a1 = some r) :
  Calls Try.prog 104 #[.string a0, .string a1] w fun e w' => e = .returned (.int .i64 r) ∧ Drawn0 w w' := by
 have H : ((cmp_isNaN_string.f a0).bind fun t1001 => ((cmp_isNaN_string.f a1).bind fun t1002 => (if t1001 = true then (if t1002 = true then (some 0) else (some (-1))) else (if t1002 = true then (some 1) else (if (Op.bytesLess a0.toList a1.toList) = true then (some (-1)) else (if (Op.bytesLess a1.toList a0.toList) = true then (some 1) else (some 0))))))) = some r := h
 clear h
 replace H := Option.bind_eq_some_iff.mp H
 obtain ⟨t1001, A30, H⟩ := H
 replace H : ((cmp_isNaN_string.f a1).bind fun t1002 => (if t1001 = true then (if t1002 = true then (some 0) else (some (-1))) else (if t1002 = true then (some 1) else (if (Op.bytesLess a0.toList a1.toList) = true then (some (-1)) else (if (Op.bytesLess a1.toList a0.toList) = true then (some 1) else (some 0)))))) = some r := H
 have A3 := am_ A30
 clear A30
 replace H := Option.bind_eq_some_iff.mp H
 obtain ⟨t1002, A40, H⟩ := H
 replace H : (if t1001 = true then (if t1002 = true then (some 0) else (some (-1))) else (if t1002 = true then (some 1) else (if (Op.bytesLess a0.toList a1.toList) = true then (some (-1)) else (if (Op.bytesLess a1.toList a0.toList) = true then (some 1) else (some 0))))) = some r := H
 have A4 := am_ A40
 clear A40
 by_cases c5 : t1001 = true
 ·subst c5
  have H1 : (if t1002 = true then (some 0) else (some (-1))) = some r := by rw [if_pos rfl] at H; exact H
  clear H
  have H := H1
  clear H1
  by_cases c6 : t1002 = true
  ·subst c6
   have H1 : (some 0) = some r := by rw [if_pos rfl] at H; exact H
   clear H
   have H := H1
   clear H1
   obtain rfl := Option.some.inj H
   go_enter Try.func104, Try.ntmps104
   go_wp2_with (first | ((with_reducible refine gate_callee (f := 150) rfl ?_); refine goesL_ (some 8) rfl rfl Try.func150 (by kernel_rfl) rfl #[.string a0] rfl ag_ ?_; (with_reducible refine (cmp_isNaN_string.calls a0 true _ A3.out).mono ?_); rintro e w' ⟨rfl, ⟨nd, rfl⟩⟩; refine ⟨_, rfl, ?_⟩) | ((with_reducible refine gate_callee (f := 150) rfl ?_); refine goesL_ (some 10) rfl rfl Try.func150 (by kernel_rfl) rfl #[.string a1] rfl ag_ ?_; (with_reducible refine (cmp_isNaN_string.calls a1 true _ A4.out).mono ?_); rintro e w' ⟨rfl, ⟨nd, rfl⟩⟩; refine ⟨_, rfl, ?_⟩))
   go_ret
   exact ⟨by first | rfl | (simp; done) | (simp [*]; done), by repeat (first | exact Drawn0.refl _ | apply Drawn0.step)⟩
  ·replace c6 := Bool.eq_false_iff.mpr c6
   subst c6
   have H1 : (some (-1)) = some r := by rw [if_neg (show ¬ (false = true) by decide)] at H; exact H
   clear H
   have H := H1
   clear H1
   obtain rfl := Option.some.inj H
   go_enter Try.func104, Try.ntmps104
   go_wp2_with (first | ((with_reducible refine gate_callee (f := 150) rfl ?_); refine goesL_ (some 8) rfl rfl Try.func150 (by kernel_rfl) rfl #[.string a0] rfl ag_ ?_; (with_reducible refine (cmp_isNaN_string.calls a0 true _ A3.out).mono ?_); rintro e w' ⟨rfl, ⟨nd, rfl⟩⟩; refine ⟨_, rfl, ?_⟩) | ((with_reducible refine gate_callee (f := 150) rfl ?_); refine goesL_ (some 10) rfl rfl Try.func150 (by kernel_rfl) rfl #[.string a1] rfl ag_ ?_; (with_reducible refine (cmp_isNaN_string.calls a1 false _ A4.out).mono ?_); rintro e w' ⟨rfl, ⟨nd, rfl⟩⟩; refine ⟨_, rfl, ?_⟩))
   go_ret
   exact ⟨by first | rfl | (simp; done) | (simp [*]; done), by repeat (first | exact Drawn0.refl _ | apply Drawn0.step)⟩
 ·replace c5 := Bool.eq_false_iff.mpr c5
  subst c5
  have H1 : (if t1002 = true then (some 1) else (if (Op.bytesLess a0.toList a1.toList) = true then (some (-1)) else (if (Op.bytesLess a1.toList a0.toList) = true then (some 1) else (some 0)))) = some r := by rw [if_neg (show ¬ (false = true) by decide)] at H; exact H
  clear H
  have H := H1
  clear H1
  by_cases c7 : t1002 = true
  ·subst c7
   have H1 : (some 1) = some r := by rw [if_pos rfl] at H; exact H
   clear H
   have H := H1
   clear H1
   obtain rfl := Option.some.inj H
   go_enter Try.func104, Try.ntmps104
   go_wp2_with (first | ((with_reducible refine gate_callee (f := 150) rfl ?_); refine goesL_ (some 8) rfl rfl Try.func150 (by kernel_rfl) rfl #[.string a0] rfl ag_ ?_; (with_reducible refine (cmp_isNaN_string.calls a0 false _ A3.out).mono ?_); rintro e w' ⟨rfl, ⟨nd, rfl⟩⟩; refine ⟨_, rfl, ?_⟩) | ((with_reducible refine gate_callee (f := 150) rfl ?_); refine goesL_ (some 10) rfl rfl Try.func150 (by kernel_rfl) rfl #[.string a1] rfl ag_ ?_; (with_reducible refine (cmp_isNaN_string.calls a1 true _ A4.out).mono ?_); rintro e w' ⟨rfl, ⟨nd, rfl⟩⟩; refine ⟨_, rfl, ?_⟩))
   go_ret
   exact ⟨by first | rfl | (simp; done) | (simp [*]; done), by repeat (first | exact Drawn0.refl _ | apply Drawn0.step)⟩
  ·replace c7 := Bool.eq_false_iff.mpr c7
   subst c7
   have H1 : (if (Op.bytesLess a0.toList a1.toList) = true then (some (-1)) else (if (Op.bytesLess a1.toList a0.toList) = true then (some 1) else (some 0))) = some r := by rw [if_neg (show ¬ (false = true) by decide)] at H; exact H
   clear H
   have H := H1
   clear H1
   by_cases c8 : (Op.bytesLess a0.toList a1.toList) = true
   ·rw [if_pos c8] at H
    have c8b0 : (Op.bytesLess a0.toList a1.toList) = true := c8
    clear c8
    obtain rfl := Option.some.inj H
    go_enter Try.func104, Try.ntmps104
    go_wp2_with (first | ((with_reducible refine gate_callee (f := 150) rfl ?_); refine goesL_ (some 8) rfl rfl Try.func150 (by kernel_rfl) rfl #[.string a0] rfl ag_ ?_; (with_reducible refine (cmp_isNaN_string.calls a0 false _ A3.out).mono ?_); rintro e w' ⟨rfl, ⟨nd, rfl⟩⟩; refine ⟨_, rfl, ?_⟩) | ((with_reducible refine gate_callee (f := 150) rfl ?_); refine goesL_ (some 10) rfl rfl Try.func150 (by kernel_rfl) rfl #[.string a1] rfl ag_ ?_; (with_reducible refine (cmp_isNaN_string.calls a1 false _ A4.out).mono ?_); rintro e w' ⟨rfl, ⟨nd, rfl⟩⟩; refine ⟨_, rfl, ?_⟩))
    go_ret
    exact ⟨by first | rfl | (simp; done) | (simp [*]; done), by repeat (first | exact Drawn0.refl _ | apply Drawn0.step)⟩
   ·rw [if_neg c8] at H
    have c8b0 : (Op.bytesLess a0.toList a1.toList) = false := by simpa using c8
    clear c8
    by_cases c9 : (Op.bytesLess a1.toList a0.toList) = true
    ·rw [if_pos c9] at H
     have c9b0 : (Op.bytesLess a1.toList a0.toList) = true := c9
     clear c9
     obtain rfl := Option.some.inj H
     go_enter Try.func104, Try.ntmps104
     go_wp2_with (first | ((with_reducible refine gate_callee (f := 150) rfl ?_); refine goesL_ (some 8) rfl rfl Try.func150 (by kernel_rfl) rfl #[.string a0] rfl ag_ ?_; (with_reducible refine (cmp_isNaN_string.calls a0 false _ A3.out).mono ?_); rintro e w' ⟨rfl, ⟨nd, rfl⟩⟩; refine ⟨_, rfl, ?_⟩) | ((with_reducible refine gate_callee (f := 150) rfl ?_); refine goesL_ (some 10) rfl rfl Try.func150 (by kernel_rfl) rfl #[.string a1] rfl ag_ ?_; (with_reducible refine (cmp_isNaN_string.calls a1 false _ A4.out).mono ?_); rintro e w' ⟨rfl, ⟨nd, rfl⟩⟩; refine ⟨_, rfl, ?_⟩))
     go_ret
     exact ⟨by first | rfl | (simp; done) | (simp [*]; done), by repeat (first | exact Drawn0.refl _ | apply Drawn0.step)⟩
    ·rw [if_neg c9] at H
     have c9b0 : (Op.bytesLess a1.toList a0.toList) = false := by simpa using c9
     clear c9
     obtain rfl := Option.some.inj H
     go_enter Try.func104, Try.ntmps104
     go_wp2_with (first | ((with_reducible refine gate_callee (f := 150) rfl ?_); refine goesL_ (some 8) rfl rfl Try.func150 (by kernel_rfl) rfl #[.string a0] rfl ag_ ?_; (with_reducible refine (cmp_isNaN_string.calls a0 false _ A3.out).mono ?_); rintro e w' ⟨rfl, ⟨nd, rfl⟩⟩; refine ⟨_, rfl, ?_⟩) | ((with_reducible refine gate_callee (f := 150) rfl ?_); refine goesL_ (some 10) rfl rfl Try.func150 (by kernel_rfl) rfl #[.string a1] rfl ag_ ?_; (with_reducible refine (cmp_isNaN_string.calls a1 false _ A4.out).mono ?_); rintro e w' ⟨rfl, ⟨nd, rfl⟩⟩; refine ⟨_, rfl, ?_⟩))
     go_ret
     exact ⟨by first | rfl | (simp; done) | (simp [*]; done), by repeat (first | exact Drawn0.refl _ | apply Drawn0.step)⟩

/-! ### cmp_isNaN_int: function 151 -/
def cmp_isNaN_int.f (a0 : Int) : Option (Bool) := some (a0 != a0)
set_option maxHeartbeats 8000000 in
set_option maxRecDepth 100000 in
theorem cmp_isNaN_int.calls (a0 : Int) (r : Bool) (w : World) (h : cmp_isNaN_int.f a0 = some r) :
  Calls Try.prog 151 #[.int .i64 a0] w fun e w' => e = .returned (.bool r) ∧ Drawn0 w w' := by
 have H : (some (a0 != a0)) = some r := h
 clear h
 obtain rfl := Option.some.inj H
 go_enter Try.func151, Try.ntmps151
 go_wp2
 go_ret
 exact ⟨by first | rfl | (simp; done) | (simp [*]; done), by repeat (first | exact Drawn0.refl _ | apply Drawn0.step)⟩

/-! ### cmp_Compare_int: function 105 -/
def cmp_Compare_int.f (a0 : Int) (a1 : Int) : Option (Int) := (cmp_isNaN_int.f a0).bind fun t1001 => ((cmp_isNaN_int.f a1).bind fun t1002 => (if t1001 = true then (if t1002 = true then (some 0) else (some (-1))) else (if t1002 = true then (some 1) else (if a0 < a1 then (some (-1)) else (if a0 > a1 then (some 1) else (some 0))))))
set_option maxHeartbeats 8000000 in
set_option maxRecDepth 100000 in
theorem cmp_Compare_int.calls (a0 : Int) (a1 : Int) (r : Int) (w : World) (h : cmp_Compare_int.f a0 a1 = some r) :
  Calls Try.prog 105 #[.int .i64 a0, .int .i64 a1] w fun e w' => e = .returned (.int .i64 r) ∧ Drawn0 w w' := by
 have H : ((cmp_isNaN_int.f a0).bind fun t1001 => ((cmp_isNaN_int.f a1).bind fun t1002 => (if t1001 = true then (if t1002 = true then (some 0) else (some (-1))) else (if t1002 = true then (some 1) else (if a0 < a1 then (some (-1)) else (if a0 > a1 then (some 1) else (some 0))))))) = some r := h
 clear h
 replace H := Option.bind_eq_some_iff.mp H
 obtain ⟨t1001, A30, H⟩ := H
 replace H : ((cmp_isNaN_int.f a1).bind fun t1002 => (if t1001 = true then (if t1002 = true then (some 0) else (some (-1))) else (if t1002 = true then (some 1) else (if a0 < a1 then (some (-1)) else (if a0 > a1 then (some 1) else (some 0)))))) = some r := H
 have A3 := am_ A30
 clear A30
 replace H := Option.bind_eq_some_iff.mp H
 obtain ⟨t1002, A40, H⟩ := H
 replace H : (if t1001 = true then (if t1002 = true then (some 0) else (some (-1))) else (if t1002 = true then (some 1) else (if a0 < a1 then (some (-1)) else (if a0 > a1 then (some 1) else (some 0))))) = some r := H
 have A4 := am_ A40
 clear A40
 by_cases c5 : t1001 = true
 ·subst c5
  have H1 : (if t1002 = true then (some 0) else (some (-1))) = some r := by rw [if_pos rfl] at H; exact H
  clear H
  have H := H1
  clear H1
  by_cases c6 : t1002 = true
  ·subst c6
   have H1 : (some 0) = some r := by rw [if_pos rfl] at H; exact H
   clear H
   have H := H1
   clear H1
   obtain rfl := Option.some.inj H
   go_enter Try.func105, Try.ntmps105
   go_wp2_with (first | ((with_reducible refine gate_callee (f := 151) rfl ?_); refine goesL_ (some 8) rfl rfl Try.func151 (by kernel_rfl) rfl #[.int .i64 a0] rfl ag_ ?_; (with_reducible refine (cmp_isNaN_int.calls a0 true _ A3.out).mono ?_); rintro e w' ⟨rfl, ⟨nd, rfl⟩⟩; refine ⟨_, rfl, ?_⟩) | ((with_reducible refine gate_callee (f := 151) rfl ?_); refine goesL_ (some 10) rfl rfl Try.func151 (by kernel_rfl) rfl #[.int .i64 a1] rfl ag_ ?_; (with_reducible refine (cmp_isNaN_int.calls a1 true _ A4.out).mono ?_); rintro e w' ⟨rfl, ⟨nd, rfl⟩⟩; refine ⟨_, rfl, ?_⟩))
   go_ret
   exact ⟨by first | rfl | (simp; done) | (simp [*]; done), by repeat (first | exact Drawn0.refl _ | apply Drawn0.step)⟩
  ·replace c6 := Bool.eq_false_iff.mpr c6
   subst c6
   have H1 : (some (-1)) = some r := by rw [if_neg (show ¬ (false = true) by decide)] at H; exact H
   clear H
   have H := H1
   clear H1
   obtain rfl := Option.some.inj H
   go_enter Try.func105, Try.ntmps105
   go_wp2_with (first | ((with_reducible refine gate_callee (f := 151) rfl ?_); refine goesL_ (some 8) rfl rfl Try.func151 (by kernel_rfl) rfl #[.int .i64 a0] rfl ag_ ?_; (with_reducible refine (cmp_isNaN_int.calls a0 true _ A3.out).mono ?_); rintro e w' ⟨rfl, ⟨nd, rfl⟩⟩; refine ⟨_, rfl, ?_⟩) | ((with_reducible refine gate_callee (f := 151) rfl ?_); refine goesL_ (some 10) rfl rfl Try.func151 (by kernel_rfl) rfl #[.int .i64 a1] rfl ag_ ?_; (with_reducible refine (cmp_isNaN_int.calls a1 false _ A4.out).mono ?_); rintro e w' ⟨rfl, ⟨nd, rfl⟩⟩; refine ⟨_, rfl, ?_⟩))
   go_ret
   exact ⟨by first | rfl | (simp; done) | (simp [*]; done), by repeat (first | exact Drawn0.refl _ | apply Drawn0.step)⟩
 ·replace c5 := Bool.eq_false_iff.mpr c5
  subst c5
  have H1 : (if t1002 = true then (some 1) else (if a0 < a1 then (some (-1)) else (if a0 > a1 then (some 1) else (some 0)))) = some r := by rw [if_neg (show ¬ (false = true) by decide)] at H; exact H
  clear H
  have H := H1
  clear H1
  by_cases c7 : t1002 = true
  ·subst c7
   have H1 : (some 1) = some r := by rw [if_pos rfl] at H; exact H
   clear H
   have H := H1
   clear H1
   obtain rfl := Option.some.inj H
   go_enter Try.func105, Try.ntmps105
   go_wp2_with (first | ((with_reducible refine gate_callee (f := 151) rfl ?_); refine goesL_ (some 8) rfl rfl Try.func151 (by kernel_rfl) rfl #[.int .i64 a0] rfl ag_ ?_; (with_reducible refine (cmp_isNaN_int.calls a0 false _ A3.out).mono ?_); rintro e w' ⟨rfl, ⟨nd, rfl⟩⟩; refine ⟨_, rfl, ?_⟩) | ((with_reducible refine gate_callee (f := 151) rfl ?_); refine goesL_ (some 10) rfl rfl Try.func151 (by kernel_rfl) rfl #[.int .i64 a1] rfl ag_ ?_; (with_reducible refine (cmp_isNaN_int.calls a1 true _ A4.out).mono ?_); rintro e w' ⟨rfl, ⟨nd, rfl⟩⟩; refine ⟨_, rfl, ?_⟩))
   go_ret
   exact ⟨by first | rfl | (simp; done) | (simp [*]; done), by repeat (first | exact Drawn0.refl _ | apply Drawn0.step)⟩
  ·replace c7 := Bool.eq_false_iff.mpr c7
   subst c7
   have H1 : (if a0 < a1 then (some (-1)) else (if a0 > a1 then (some 1) else (some 0))) = some r := by rw [if_neg (show ¬ (false = true) by decide)] at H; exact H
   clear H
   have H := H1
   clear H1
   by_cases c8 : a0 < a1
   ·rw [if_pos c8] at H
    have c8b0 : decide (a0 < a1) = true := decide_eq_true c8
    clear c8
    obtain rfl := Option.some.inj H
    go_enter Try.func105, Try.ntmps105
    go_wp2_with (first | ((with_reducible refine gate_callee (f := 151) rfl ?_); refine goesL_ (some 8) rfl rfl Try.func151 (by kernel_rfl) rfl #[.int .i64 a0] rfl ag_ ?_; (with_reducible refine (cmp_isNaN_int.calls a0 false _ A3.out).mono ?_); rintro e w' ⟨rfl, ⟨nd, rfl⟩⟩; refine ⟨_, rfl, ?_⟩) | ((with_reducible refine gate_callee (f := 151) rfl ?_); refine goesL_ (some 10) rfl rfl Try.func151 (by kernel_rfl) rfl #[.int .i64 a1] rfl ag_ ?_; (with_reducible refine (cmp_isNaN_int.calls a1 false _ A4.out).mono ?_); rintro e w' ⟨rfl, ⟨nd, rfl⟩⟩; refine ⟨_, rfl, ?_⟩))
    go_ret
    exact ⟨by first | rfl | (simp; done) | (simp [*]; done), by repeat (first | exact Drawn0.refl _ | apply Drawn0.step)⟩
   ·rw [if_neg c8] at H
    have c8b0 : decide (a0 < a1) = false := decide_eq_false c8
    clear c8
    by_cases c9 : a0 > a1
    ·rw [if_pos c9] at H
     have c9b0 : decide (a1 < a0) = true := decide_eq_true c9
     clear c9
     obtain rfl := Option.some.inj H
     go_enter Try.func105, Try.ntmps105
     go_wp2_with (first | ((with_reducible refine gate_callee (f := 151) rfl ?_); refine goesL_ (some 8) rfl rfl Try.func151 (by kernel_rfl) rfl #[.int .i64 a0] rfl ag_ ?_; (with_reducible refine (cmp_isNaN_int.calls a0 false _ A3.out).mono ?_); rintro e w' ⟨rfl, ⟨nd, rfl⟩⟩; refine ⟨_, rfl, ?_⟩) | ((with_reducible refine gate_callee (f := 151) rfl ?_); refine goesL_ (some 10) rfl rfl Try.func151 (by kernel_rfl) rfl #[.int .i64 a1] rfl ag_ ?_; (with_reducible refine (cmp_isNaN_int.calls a1 false _ A4.out).mono ?_); rintro e w' ⟨rfl, ⟨nd, rfl⟩⟩; refine ⟨_, rfl, ?_⟩))
     go_ret
     exact ⟨by first | rfl | (simp; done) | (simp [*]; done), by repeat (first | exact Drawn0.refl _ | apply Drawn0.step)⟩
    ·rw [if_neg c9] at H
     have c9b0 : decide (a1 < a0) = false := decide_eq_false c9
     clear c9
     obtain rfl := Option.some.inj H
     go_enter Try.func105, Try.ntmps105
     go_wp2_with (first | ((with_reducible refine gate_callee (f := 151) rfl ?_); refine goesL_ (some 8) rfl rfl Try.func151 (by kernel_rfl) rfl #[.int .i64 a0] rfl ag_ ?_; (with_reducible refine (cmp_isNaN_int.calls a0 false _ A3.out).mono ?_); rintro e w' ⟨rfl, ⟨nd, rfl⟩⟩; refine ⟨_, rfl, ?_⟩) | ((with_reducible refine gate_callee (f := 151) rfl ?_); refine goesL_ (some 10) rfl rfl Try.func151 (by kernel_rfl) rfl #[.int .i64 a1] rfl ag_ ?_; (with_reducible refine (cmp_isNaN_int.calls a1 false _ A4.out).mono ?_); rintro e w' ⟨rfl, ⟨nd, rfl⟩⟩; refine ⟨_, rfl, ?_⟩))
     go_ret
     exact ⟨by first | rfl | (simp; done) | (simp [*]; done), by repeat (first | exact Drawn0.refl _ | apply Drawn0.step)⟩

/-! ### impl_compare: function 56 -/
def impl_compare.l0 : Nat → List (S108) → List (S108) → Int → Int → Option (Int)
 | 0, _, _, _, _ => none
 | k + 1, x0, x1, x11, x12 => if x12 < x11 then (if 0 ≤ x12 then (if x12 < (x0.length : Int) then (if x12 < (x1.length : Int) then ((cmp_Compare_string.f ((rd_T108 x0 x12).f0) ((rd_T108 x1 x12).f0)).bind fun t1004 => ((cmp_Compare_string.f ((rd_T108 x0 x12).f1) ((rd_T108 x1 x12).f1)).bind fun t1007 => ((cmp_Or_int.f k (([t1004, t1007] : List Int))).bind fun t1011 => (if t1011 = 0 then (impl_compare.l0 k x0 x1 x11 (wrap64 (x12 + 1))) else (some t1011))))) else (none)) else (none)) else (none)) else ((cmp_Compare_int.f (x0.length : Int) (x1.length : Int)).bind fun t1001 => (some t1001))
def impl_compare.f (k : Nat) (l0 : List (S108)) (l1 : List (S108)) : Option (Int) := impl_compare.l0 k l0 l1 (mn (l0.length : Int) (l1.length : Int)) 0
theorem impl_compare.mono_l : ∀ k, (∀ y0 y1 y2 y3, LeO (impl_compare.l0 k y0 y1 y2 y3) (impl_compare.l0 (k + 1) y0 y1 y2 y3))
 | 0 => fun _ _ _ _ r h => by simp [impl_compare.l0] at h
 | k + 1 => by
  have ih0 := impl_compare.mono_l k
  ·intro y0 y1 y2 y3
   unfold impl_compare.l0
   repeat' first
   | with_reducible first | exact ih0 _ _ _ _ | exact cmp_Or_int.mono _ _ | exact LeO.refl _ | exact LeO.none _ | refine LeO.ite ?_ ?_ | refine LeO.bind ?_ (fun _ => ?_)
   | exact ih0 _ _ _ _
   | exact cmp_Or_int.mono _ _
   | exact LeO.none _
   | refine LeO.ite ?_ ?_
   | refine LeO.bind ?_ (fun _ => ?_)
theorem impl_compare.mono : ∀ a0 a1 k, LeO (impl_compare.f k a0 a1) (impl_compare.f (k + 1) a0 a1) := by
 intro a0 a1 k
 have ih0 := impl_compare.mono_l k
 unfold impl_compare.f
 repeat' first
   | with_reducible first | exact ih0 _ _ _ _ | exact cmp_Or_int.mono _ _ | exact LeO.refl _ | exact LeO.none _ | refine LeO.ite ?_ ?_ | refine LeO.bind ?_ (fun _ => ?_)
   | exact ih0 _ _ _ _
   | exact cmp_Or_int.mono _ _
   | exact LeO.none _
   | refine LeO.ite ?_ ?_
   | refine LeO.bind ?_ (fun _ => ?_)
def impl_compare.T4 : Bool × List (List Nat × List Nat) := (true, [([], []), ([], []), ([0, 1], [0, 1]), ([2], [2]), ([3], [3]), ([], []), ([], []), ([5, 6], [5, 6]), ([7], [7]), ([8], [8]), ([4, 9], [4, 9]), ([], []), ([], []), ([11, 12], [11, 12]), ([13], [13]), ([14], [14]), ([], []), ([], []), ([16, 17], [16, 17]), ([18], [18]), ([19], [19]), ([15, 20, 10], [15, 20]), ([10, 21], [10, 21]), ([22, 21], [22]), ([23, 23, 0, 1, 2, 3, 4, 5, 6, 7, 8, 9, 10, 11, 12, 13, 14, 15, 16, 17, 18, 19, 20, 21, 22, 23], [23])])
def impl_compare.B4 : List Nat := [0, 0, 3, 7, 15, 0, 0, 96, 224, 480, 1023, 0, 0, 6144, 14336, 30720, 0, 0, 196608, 458752, 983040, 2097151, 4194303, 8388607, 16777215]
theorem impl_compare.tab4 : rtab .any (opsOf Try.f56 4) = impl_compare.T4 := by kernel_rfl
theorem impl_compare.bits4 : waitsOk impl_compare.T4.2 impl_compare.B4 = true := by kernel_rfl
set_option maxHeartbeats 8000000 in
set_option maxRecDepth 100000 in
theorem impl_compare.calls (k : Nat) (A0 : Option Addr) (c0 : Nat) (l0 : List (S108)) (A1 : Option Addr) (c1 : Nat) (l1 : List (S108)) (r : Int) (w : World) (hr0 : Kd.C k108 w A0 l0.length l0) (hc0 : l0.length ≤ c0) (hr1 : Kd.C k108 w A1 l1.length l1) (hc1 : l1.length ≤ c1) (h : impl_compare.f k l0 l1 = some r) :
  Calls Try.prog 56 #[.slice A0 l0.length c0, .slice A1 l1.length c1] w fun e w' => e = .returned (.int .i64 r) ∧ Below w.heap.size w w' := by
 have HR0 := am_ hr0
 have HC0 := am_ hc0
 clear hr0 hc0
 have HR1 := am_ hr1
 have HC1 := am_ hc1
 clear hr1 hc1
 have HB := am_ (Below.refl w.heap.size w)
 have H : (impl_compare.l0 k l0 l1 (mn (l0.length : Int) (l1.length : Int)) 0) = some r := h
 clear h
 obtain ⟨ji3, hji3⟩ : ∃ j_ : Int, (mn (l0.length : Int) (l1.length : Int)) = j_ := ⟨_, rfl⟩
 replace H : (impl_compare.l0 k l0 l1 ji3 0) = some r := by first | (rw [hji3] at H; exact H) | (simp only [hji3] at H ⊢; exact H)
 (try (have hji3l : 0 ≤ ji3 := by (rw [← hji3]; unfold mn; (repeat' split) <;> omega)))
 (try (have hji3m : 0 ≤ ji3 := by omega))
 have hji3_ : (if (l1.length : Int) < (l0.length : Int) then (l1.length : Int) else (l0.length : Int)) = ji3 := hji3
 have hji3n_ : (if l1.length < l0.length then (l1.length : Int) else (l0.length : Int)) = ji3 := by rw [← hji3_]; split <;> split <;> omega
 have H' := am_ H
 clear H
 go_enter Try.func56, Try.ntmps56
 go_wp2
 go_loopg [12] k (fun kq v12 w' => ∃ (x12_1 : Int), v12 = .int .i64 x12_1 ∧ Aside0 (impl_compare.l0 kq l0 l1 ji3 x12_1 = some r) ∧ Aside0 (kq ≤ k) ∧ Aside0 (Below w.heap.size w w'))
 case atStart => exact ⟨(0), rs_, H', ⟨Nat.le_refl _⟩, ⟨bl_⟩⟩
 case round =>
  clear H'
  try clear c1
  try clear p2
  obtain ⟨x12_1, rfl, HA, HK1, HB⟩ := hrel
  cases gk with
  | zero => exact absurd HA.out (by simp [impl_compare.l0])
  | succ k1 =>
   have H := HA.out
   clear HA
   simp only [impl_compare.l0] at H
   by_cases c4 : x12_1 < ji3
   ·rw [if_pos c4] at H
    have c4b0 : decide (x12_1 < ji3) = true := decide_eq_true c4
    clear c4
    by_cases c5 : 0 ≤ x12_1
    ·rw [if_pos c5] at H
     have c5b0 : decide (0 ≤ x12_1) = true := decide_eq_true c5
     clear c5
     by_cases c6 : x12_1 < (l0.length : Int)
     ·rw [if_pos c6] at H
      have c6b0 : decide (x12_1 < (l0.length : Int)) = true := decide_eq_true c6
      clear c6
      by_cases c7 : x12_1 < (l1.length : Int)
      ·rw [if_pos c7] at H
       have c7b0 : decide (x12_1 < (l1.length : Int)) = true := decide_eq_true c7
       clear c7
       replace H := Option.bind_eq_some_iff.mp H
       obtain ⟨t1004, A80, H⟩ := H
       replace H : ((cmp_Compare_string.f ((rd_T108 l0 x12_1).f1) ((rd_T108 l1 x12_1).f1)).bind fun t1007 => ((cmp_Or_int.f k1 (([t1004, t1007] : List Int))).bind fun t1011 => (if t1011 = 0 then (impl_compare.l0 k1 l0 l1 ji3 (wrap64 (x12_1 + 1))) else (some t1011)))) = some r := H
       have A8 := am_ A80
       clear A80
       replace H := Option.bind_eq_some_iff.mp H
       obtain ⟨t1007, A90, H⟩ := H
       replace H : ((cmp_Or_int.f k1 (([t1004, t1007] : List Int))).bind fun t1011 => (if t1011 = 0 then (impl_compare.l0 k1 l0 l1 ji3 (wrap64 (x12_1 + 1))) else (some t1011))) = some r := H
       have A9 := am_ A90
       clear A90
       obtain ⟨y1008, hy1008⟩ : ∃ y_ : List Int, y_ = (([t1004, t1007] : List Int)) := ⟨_, rfl⟩
       replace H : ((cmp_Or_int.f k1 y1008).bind fun t1011 => (if t1011 = 0 then (impl_compare.l0 k1 l0 l1 ji3 (wrap64 (x12_1 + 1))) else (some t1011))) = some r := by first | (rw [hy1008]; with_reducible exact H) | (have H2_ := (Option.bind_some _ _).symm.trans H; rw [hy1008]; with_reducible exact H2_) | (have H2_ := (Option.bind_some _ _).symm.trans H; with_reducible exact H2_) | with_reducible exact H | (rw [hy1008]; exact H) | exact H
       have Ny1008 := am_ hy1008
       clear hy1008
       replace H := Option.bind_eq_some_iff.mp H
       obtain ⟨t1011, A100, H⟩ := H
       replace H : (if t1011 = 0 then (impl_compare.l0 k1 l0 l1 ji3 (wrap64 (x12_1 + 1))) else (some t1011)) = some r := H
       have A10 := am_ A100
       clear A100
       by_cases c11 : t1011 = 0
       ·rw [if_pos c11] at H
        have c11b0 : (t1011 == 0) = true := beq_iff_eq.mpr c11
        have c11b1 : (t1011 != 0) = false := bne_eq_false_iff_eq.mpr c11
        clear c11
        have H' := am_ H
        clear H
        try go_wp2
        have n0_ := am_ (below_drew1 HB.out)
        clear HB
        have HB := n0_
        clear n0_
        have p1002 : 0 ≤ (x12_1 : Int) := od_
        have q1002 : x12_1 < (l0.length : Int) := od_
        obtain ⟨ad1002, e1002, hx1002_0, hx1002_1⟩ := at_T108 HR0.out x12_1 p1002 q1002
        have hw1002_1 := hx1002_1
        have hw1002_0 := hx1002_0
        cases e1002
        replace hx1002_0 := kp_ HB hx1002_0
        replace hx1002_1 := kp_ HB hx1002_1
        replace p1002 := eq_true p1002
        replace q1002 := eq_true q1002
        have p1003 : 0 ≤ (x12_1 : Int) := od_
        have q1003 : x12_1 < (l1.length : Int) := od_
        obtain ⟨ad1003, e1003, hx1003_0, hx1003_1⟩ := at_T108 HR1.out x12_1 p1003 q1003
        have hw1003_1 := hx1003_1
        have hw1003_0 := hx1003_0
        cases e1003
        replace hx1003_0 := kp_ HB hx1003_0
        replace hx1003_1 := kp_ HB hx1003_1
        replace p1003 := eq_true p1003
        replace q1003 := eq_true q1003
        have p1005 : 0 ≤ (x12_1 : Int) := od_
        have q1005 : x12_1 < (l0.length : Int) := od_
        obtain ⟨ad1005, e1005, hx1005_0, hx1005_1⟩ := at_T108 HR0.out x12_1 p1005 q1005
        have hw1005_1 := hx1005_1
        have hw1005_0 := hx1005_0
        obtain rfl : ad1002 = ad1005 := (by injection e1005)
        replace hx1005_0 := kp_ HB hx1005_0
        replace hx1005_1 := kp_ HB hx1005_1
        replace p1005 := eq_true p1005
        replace q1005 := eq_true q1005
        have p1006 : 0 ≤ (x12_1 : Int) := od_
        have q1006 : x12_1 < (l1.length : Int) := od_
        obtain ⟨ad1006, e1006, hx1006_0, hx1006_1⟩ := at_T108 HR1.out x12_1 p1006 q1006
        have hw1006_1 := hx1006_1
        have hw1006_0 := hx1006_0
        obtain rfl : ad1003 = ad1006 := (by injection e1006)
        replace hx1006_0 := kp_ HB hx1006_0
        replace hx1006_1 := kp_ HB hx1006_1
        replace p1006 := eq_true p1006
        replace q1006 := eq_true q1006
        refine start_ (n := 25) (S := fun w' => w'.cell? (ad1002.add ((x12_1).toNat * 2)) = some (.string ((rd_T108 l0 x12_1).f0)) ∧ w'.cell? ⟨(ad1002.add ((x12_1).toNat * 2)).block, (ad1002.add ((x12_1).toNat * 2)).off + 1, none⟩ = some (.string ((rd_T108 l0 x12_1).f1)) ∧ w'.cell? (ad1003.add ((x12_1).toNat * 2)) = some (.string ((rd_T108 l1 x12_1).f0)) ∧ w'.cell? ⟨(ad1003.add ((x12_1).toNat * 2)).block, (ad1003.add ((x12_1).toNat * 2)).off + 1, none⟩ = some (.string ((rd_T108 l1 x12_1).f1)) ∧ w'.cell? (ad1002.add ((x12_1).toNat * 2)) = some (.string ((rd_T108 l0 x12_1).f0)) ∧ w'.cell? ⟨(ad1002.add ((x12_1).toNat * 2)).block, (ad1002.add ((x12_1).toNat * 2)).off + 1, none⟩ = some (.string ((rd_T108 l0 x12_1).f1)) ∧ w'.cell? (ad1003.add ((x12_1).toNat * 2)) = some (.string ((rd_T108 l1 x12_1).f0)) ∧ w'.cell? ⟨(ad1003.add ((x12_1).toNat * 2)).block, (ad1003.add ((x12_1).toNat * 2)).off + 1, none⟩ = some (.string ((rd_T108 l1 x12_1).f1))) (ds := []) (bz 25 0) (by kernel_rfl) rfl rfl ⟨(kp_ HB hw1002_0 :), (kp_ HB hw1002_1 :), (kp_ HB hw1003_0 :), (kp_ HB hw1003_1 :), (kp_ HB hw1005_0 :), (kp_ HB hw1005_1 :), (kp_ HB hw1006_0 :), (kp_ HB hw1006_1 :)⟩ (fun hHeld => ?_); refine with_tabW impl_compare.tab4 impl_compare.bits4 (fun HT_ HW_ => ?_)
        generalize wr.drew = w12 at HB hx1002_0 hx1002_1 hx1003_0 hx1003_1 hx1005_0 hx1005_1 hx1006_0 hx1006_1 hHeld ⊢
        refine pz_ 0 15 1 ?_
        refine pz_ 1 16 3 ?_
        refine pz_ 2 17 7 ?_
        refine pz_ 3 18 15 ?_
        refine pz_ 5 20 47 ?_
        refine pz_ 6 21 111 ?_
        refine pz_ 7 22 239 ?_
        refine pz_ 8 23 495 ?_
        refine pz_ 11 26 2543 ?_
        refine pz_ 12 27 6639 ?_
        refine pz_ 13 28 14831 ?_
        refine pz_ 14 29 31215 ?_
        refine pz_ 16 31 96751 ?_
        refine pz_ 17 32 227823 ?_
        refine pz_ 18 33 489967 ?_
        refine pz_ 19 34 1014255 ?_
        refine tz_ 4 19 1014271 ?_
        refine tz_ 9 24 1014783 ?_
        refine tz_ 15 30 1047551 ?_
        refine tz_ 20 35 2096127 ?_
        refine one_ (i := 10) (N := some 25) (bz 25 2097151) rfl rfl (one_of HT_.out (by kernel_rfl)) (by decide) (fun K hK => ?_)
        refine goes_ Try.func104 (by kernel_rfl) rfl #[.string ((rd_T108 l0 x12_1).f0), .string ((rd_T108 l1 x12_1).f0)] (by rfl) rfl rfl ag_ ?_
        with_reducible refine (cmp_Compare_string.calls ((rd_T108 l0 x12_1).f0) ((rd_T108 l1 x12_1).f0) t1004 _ A8.out).mono ?_
        rintro e w' ⟨rfl, ⟨nd, rfl⟩⟩
        refine ⟨_, rfl, ?_⟩
        refine hK.out _ _ ⟨(kp_ HB hw1002_0 :), (kp_ HB hw1002_1 :), (kp_ HB hw1003_0 :), (kp_ HB hw1003_1 :), (kp_ HB hw1005_0 :), (kp_ HB hw1005_1 :), (kp_ HB hw1006_0 :), (kp_ HB hw1006_1 :)⟩ (fun hHeld => ?_)
        clear hK K
        refine norm_ (a' := ?_) ?_ ?_
        rotate_left
        ·show Act.put _ (some 25) _ = _
         simp only [Act.put, List.setIfInBounds_toArray, List.set_cons_zero, List.set_cons_succ, i64_w, i32_w]
         rfl
        refine one_ (i := 21) (N := some 36) (bz 25 4194303) rfl rfl (one_of HT_.out (by kernel_rfl)) (by decide) (fun K hK => ?_)
        refine goes_ Try.func104 (by kernel_rfl) rfl #[.string ((rd_T108 l0 x12_1).f1), .string ((rd_T108 l1 x12_1).f1)] (by rfl) rfl rfl ag_ ?_
        with_reducible refine (cmp_Compare_string.calls ((rd_T108 l0 x12_1).f1) ((rd_T108 l1 x12_1).f1) t1007 _ A9.out).mono ?_
        rintro e w' ⟨rfl, ⟨nd, rfl⟩⟩
        refine ⟨_, rfl, ?_⟩
        refine hK.out _ _ ⟨(kp_ HB hw1002_0 :), (kp_ HB hw1002_1 :), (kp_ HB hw1003_0 :), (kp_ HB hw1003_1 :), (kp_ HB hw1005_0 :), (kp_ HB hw1005_1 :), (kp_ HB hw1006_0 :), (kp_ HB hw1006_1 :)⟩ (fun hHeld => ?_)
        clear hK K
        refine norm_ (a' := ?_) ?_ ?_
        rotate_left
        ·show Act.put _ (some 36) _ = _
         simp only [Act.put, List.setIfInBounds_toArray, List.set_cons_zero, List.set_cons_succ, i64_w, i32_w]
         rfl
        refine one_ (i := 22) (N := some 37) (bz 25 8388607) rfl rfl (one_of HT_.out (by kernel_rfl)) (by decide) (fun K hK => ?_)
        refine Kd.R_lit_step (Kd.int .i64) _ 3 ?hg (N := 37) ?hd (xs := ([t1004, t1007] : List Int)) (inner := [.int .i64 t1004, .int .i64 t1007]) (ok := fun _ => True) (okp := fun _ => True) ?hr ?hp (fun _ hk => hk) trivial (Below.refl _ _) (Nat.le_refl _) (by simp) ?_; (case hd => rfl); (case hg => rfl); (case hr => first | (go_simp; done) | (go_simp; rfl)); (case hp => exact (Reps.one (show Kd.M (Kd.int .i64) _ _ _ t1004 [.int .i64 t1004] from rfl) (Reps.one (show Kd.M (Kd.int .i64) _ _ _ t1007 [.int .i64 t1007] from rfl) (Reps.none _ _))))
        intro v1009 w13 ho14 hb hg_ hnew_
        clear hg_ hnew_
        (first | rw [← Ny1008.out] at ho14 | (simp only [Int.reduceToNat] at ho14; rw [← Ny1008.out] at ho14))
        have n0_ := am_ (Kd.R_lower ho14 (below_size bl_))
        have n1_ := am_ (below_step bl_ hb)
        clear HB
        have HO1010 := n0_
        have HB := n1_
        clear n0_ n1_
        clear hb ho14
        obtain ⟨Ao15, co15, eo15⟩ := Kd.R_slice HO1010.out
        (first | subst eo15 | (injection eo15 with f1_ f2_ f3_; have f4_ := f1_.symm; have f5_ := f3_.symm; clear f1_ f2_ f3_; subst f4_; subst f5_))
        refine hK.out _ _ ⟨(kp_ HB hw1002_0 :), (kp_ HB hw1002_1 :), (kp_ HB hw1003_0 :), (kp_ HB hw1003_1 :), (kp_ HB hw1005_0 :), (kp_ HB hw1005_1 :), (kp_ HB hw1006_0 :), (kp_ HB hw1006_1 :)⟩ (fun hHeld => ?_)
        clear hK K
        refine norm_ (a' := ?_) ?_ ?_
        rotate_left
        ·show Act.put _ (some 37) _ = _
         simp only [Act.put, List.setIfInBounds_toArray, List.set_cons_zero, List.set_cons_succ, i64_w, i32_w]
         rfl
        refine one_ (i := 23) (N := some 38) (bz 25 16777215) rfl rfl (one_of HT_.out (by kernel_rfl)) (by decide) (fun K hK => ?_)
        refine goes_ Try.func103 (by kernel_rfl) rfl #[.slice Ao15 y1008.length co15] (by rfl) rfl rfl ag_ ?_
        with_reducible refine (cmp_Or_int.calls k1 _ _ y1008 t1011 _ ?side1 ?side2 A10.out).mono ?_
        (case side1 => exact cc_ (Kd.R_reads' HO1010.out).2.2)
        (case side2 => exact (Kd.R_reads' HO1010.out).2.1)
        rintro e w' ⟨rfl, ⟨nd, rfl⟩⟩
        refine ⟨_, rfl, ?_⟩
        refine hK.out _ _ ⟨(kp_ HB hw1002_0 :), (kp_ HB hw1002_1 :), (kp_ HB hw1003_0 :), (kp_ HB hw1003_1 :), (kp_ HB hw1005_0 :), (kp_ HB hw1005_1 :), (kp_ HB hw1006_0 :), (kp_ HB hw1006_1 :)⟩ (fun hHeld => ?_)
        clear hK K
        refine norm_ (a' := ?_) ?_ ?_
        rotate_left
        ·show Act.put _ (some 38) _ = _
         simp only [Act.put, List.setIfInBounds_toArray, List.set_cons_zero, List.set_cons_succ, i64_w, i32_w]
         rfl
        refine pz_ 24 6 33554431 ?_
        refine done_ (done_of HT_.out (by kernel_rfl)) ?_
        try go_wp2
        go_roundg k1
        case measure => have := HK1.out; omega
        case rel => exact ⟨(wrap64 (x12_1 + 1)), rs_, H', ⟨by have := HK1.out; omega⟩, ⟨bl_⟩⟩
       ·rw [if_neg c11] at H
        have c11b0 : (t1011 == 0) = false := beq_eq_false_iff_ne.mpr c11
        have c11b1 : (t1011 != 0) = true := bne_iff_ne.mpr c11
        obtain rfl := Option.some.inj H
        try go_wp2
        have n0_ := am_ (below_drew1 HB.out)
        clear HB
        have HB := n0_
        clear n0_
        have p1002 : 0 ≤ (x12_1 : Int) := od_
        have q1002 : x12_1 < (l0.length : Int) := od_
        obtain ⟨ad1002, e1002, hx1002_0, hx1002_1⟩ := at_T108 HR0.out x12_1 p1002 q1002
        have hw1002_1 := hx1002_1
        have hw1002_0 := hx1002_0
        cases e1002
        replace hx1002_0 := kp_ HB hx1002_0
        replace hx1002_1 := kp_ HB hx1002_1
        replace p1002 := eq_true p1002
        replace q1002 := eq_true q1002
        have p1003 : 0 ≤ (x12_1 : Int) := od_
        have q1003 : x12_1 < (l1.length : Int) := od_
        obtain ⟨ad1003, e1003, hx1003_0, hx1003_1⟩ := at_T108 HR1.out x12_1 p1003 q1003
        have hw1003_1 := hx1003_1
        have hw1003_0 := hx1003_0
        cases e1003
        replace hx1003_0 := kp_ HB hx1003_0
        replace hx1003_1 := kp_ HB hx1003_1
        replace p1003 := eq_true p1003
        replace q1003 := eq_true q1003
        have p1005 : 0 ≤ (x12_1 : Int) := od_
        have q1005 : x12_1 < (l0.length : Int) := od_
        obtain ⟨ad1005, e1005, hx1005_0, hx1005_1⟩ := at_T108 HR0.out x12_1 p1005 q1005
        have hw1005_1 := hx1005_1
        have hw1005_0 := hx1005_0
        obtain rfl : ad1002 = ad1005 := (by injection e1005)
        replace hx1005_0 := kp_ HB hx1005_0
        replace hx1005_1 := kp_ HB hx1005_1
        replace p1005 := eq_true p1005
        replace q1005 := eq_true q1005
        have p1006 : 0 ≤ (x12_1 : Int) := od_
        have q1006 : x12_1 < (l1.length : Int) := od_
        obtain ⟨ad1006, e1006, hx1006_0, hx1006_1⟩ := at_T108 HR1.out x12_1 p1006 q1006
        have hw1006_1 := hx1006_1
        have hw1006_0 := hx1006_0
        obtain rfl : ad1003 = ad1006 := (by injection e1006)
        replace hx1006_0 := kp_ HB hx1006_0
        replace hx1006_1 := kp_ HB hx1006_1
        replace p1006 := eq_true p1006
        replace q1006 := eq_true q1006
        refine start_ (n := 25) (S := fun w' => w'.cell? (ad1002.add ((x12_1).toNat * 2)) = some (.string ((rd_T108 l0 x12_1).f0)) ∧ w'.cell? ⟨(ad1002.add ((x12_1).toNat * 2)).block, (ad1002.add ((x12_1).toNat * 2)).off + 1, none⟩ = some (.string ((rd_T108 l0 x12_1).f1)) ∧ w'.cell? (ad1003.add ((x12_1).toNat * 2)) = some (.string ((rd_T108 l1 x12_1).f0)) ∧ w'.cell? ⟨(ad1003.add ((x12_1).toNat * 2)).block, (ad1003.add ((x12_1).toNat * 2)).off + 1, none⟩ = some (.string ((rd_T108 l1 x12_1).f1)) ∧ w'.cell? (ad1002.add ((x12_1).toNat * 2)) = some (.string ((rd_T108 l0 x12_1).f0)) ∧ w'.cell? ⟨(ad1002.add ((x12_1).toNat * 2)).block, (ad1002.add ((x12_1).toNat * 2)).off + 1, none⟩ = some (.string ((rd_T108 l0 x12_1).f1)) ∧ w'.cell? (ad1003.add ((x12_1).toNat * 2)) = some (.string ((rd_T108 l1 x12_1).f0)) ∧ w'.cell? ⟨(ad1003.add ((x12_1).toNat * 2)).block, (ad1003.add ((x12_1).toNat * 2)).off + 1, none⟩ = some (.string ((rd_T108 l1 x12_1).f1))) (ds := []) (bz 25 0) (by kernel_rfl) rfl rfl ⟨(kp_ HB hw1002_0 :), (kp_ HB hw1002_1 :), (kp_ HB hw1003_0 :), (kp_ HB hw1003_1 :), (kp_ HB hw1005_0 :), (kp_ HB hw1005_1 :), (kp_ HB hw1006_0 :), (kp_ HB hw1006_1 :)⟩ (fun hHeld => ?_); refine with_tabW impl_compare.tab4 impl_compare.bits4 (fun HT_ HW_ => ?_)
        generalize wr.drew = w16 at HB hx1002_0 hx1002_1 hx1003_0 hx1003_1 hx1005_0 hx1005_1 hx1006_0 hx1006_1 hHeld ⊢
        refine pz_ 0 15 1 ?_
        refine pz_ 1 16 3 ?_
        refine pz_ 2 17 7 ?_
        refine pz_ 3 18 15 ?_
        refine pz_ 5 20 47 ?_
        refine pz_ 6 21 111 ?_
        refine pz_ 7 22 239 ?_
        refine pz_ 8 23 495 ?_
        refine pz_ 11 26 2543 ?_
        refine pz_ 12 27 6639 ?_
        refine pz_ 13 28 14831 ?_
        refine pz_ 14 29 31215 ?_
        refine pz_ 16 31 96751 ?_
        refine pz_ 17 32 227823 ?_
        refine pz_ 18 33 489967 ?_
        refine pz_ 19 34 1014255 ?_
        refine tz_ 4 19 1014271 ?_
        refine tz_ 9 24 1014783 ?_
        refine tz_ 15 30 1047551 ?_
        refine tz_ 20 35 2096127 ?_
        refine one_ (i := 10) (N := some 25) (bz 25 2097151) rfl rfl (one_of HT_.out (by kernel_rfl)) (by decide) (fun K hK => ?_)
        refine goes_ Try.func104 (by kernel_rfl) rfl #[.string ((rd_T108 l0 x12_1).f0), .string ((rd_T108 l1 x12_1).f0)] (by rfl) rfl rfl ag_ ?_
        with_reducible refine (cmp_Compare_string.calls ((rd_T108 l0 x12_1).f0) ((rd_T108 l1 x12_1).f0) t1004 _ A8.out).mono ?_
        rintro e w' ⟨rfl, ⟨nd, rfl⟩⟩
        refine ⟨_, rfl, ?_⟩
        refine hK.out _ _ ⟨(kp_ HB hw1002_0 :), (kp_ HB hw1002_1 :), (kp_ HB hw1003_0 :), (kp_ HB hw1003_1 :), (kp_ HB hw1005_0 :), (kp_ HB hw1005_1 :), (kp_ HB hw1006_0 :), (kp_ HB hw1006_1 :)⟩ (fun hHeld => ?_)
        clear hK K
        refine norm_ (a' := ?_) ?_ ?_
        rotate_left
        ·show Act.put _ (some 25) _ = _
         simp only [Act.put, List.setIfInBounds_toArray, List.set_cons_zero, List.set_cons_succ, i64_w, i32_w]
         rfl
        refine one_ (i := 21) (N := some 36) (bz 25 4194303) rfl rfl (one_of HT_.out (by kernel_rfl)) (by decide) (fun K hK => ?_)
        refine goes_ Try.func104 (by kernel_rfl) rfl #[.string ((rd_T108 l0 x12_1).f1), .string ((rd_T108 l1 x12_1).f1)] (by rfl) rfl rfl ag_ ?_
        with_reducible refine (cmp_Compare_string.calls ((rd_T108 l0 x12_1).f1) ((rd_T108 l1 x12_1).f1) t1007 _ A9.out).mono ?_
        rintro e w' ⟨rfl, ⟨nd, rfl⟩⟩
        refine ⟨_, rfl, ?_⟩
        refine hK.out _ _ ⟨(kp_ HB hw1002_0 :), (kp_ HB hw1002_1 :), (kp_ HB hw1003_0 :), (kp_ HB hw1003_1 :), (kp_ HB hw1005_0 :), (kp_ HB hw1005_1 :), (kp_ HB hw1006_0 :), (kp_ HB hw1006_1 :)⟩ (fun hHeld => ?_)
        clear hK K
        refine norm_ (a' := ?_) ?_ ?_
        rotate_left
        ·show Act.put _ (some 36) _ = _
         simp only [Act.put, List.setIfInBounds_toArray, List.set_cons_zero, List.set_cons_succ, i64_w, i32_w]
         rfl
        refine one_ (i := 22) (N := some 37) (bz 25 8388607) rfl rfl (one_of HT_.out (by kernel_rfl)) (by decide) (fun K hK => ?_)
        refine Kd.R_lit_step (Kd.int .i64) _ 3 ?hg (N := 37) ?hd (xs := ([t1004, t1007] : List Int)) (inner := [.int .i64 t1004, .int .i64 t1007]) (ok := fun _ => True) (okp := fun _ => True) ?hr ?hp (fun _ hk => hk) trivial (Below.refl _ _) (Nat.le_refl _) (by simp) ?_; (case hd => rfl); (case hg => rfl); (case hr => first | (go_simp; done) | (go_simp; rfl)); (case hp => exact (Reps.one (show Kd.M (Kd.int .i64) _ _ _ t1004 [.int .i64 t1004] from rfl) (Reps.one (show Kd.M (Kd.int .i64) _ _ _ t1007 [.int .i64 t1007] from rfl) (Reps.none _ _))))
        intro v1009 w17 ho18 hb hg_ hnew_
        clear hg_ hnew_
        (first | rw [← Ny1008.out] at ho18 | (simp only [Int.reduceToNat] at ho18; rw [← Ny1008.out] at ho18))
        have n0_ := am_ (Kd.R_lower ho18 (below_size bl_))
        have n1_ := am_ (below_step bl_ hb)
        clear HB
        have HO1010 := n0_
        have HB := n1_
        clear n0_ n1_
        clear hb ho18
        obtain ⟨Ao19, co19, eo19⟩ := Kd.R_slice HO1010.out
        (first | subst eo19 | (injection eo19 with f1_ f2_ f3_; have f4_ := f1_.symm; have f5_ := f3_.symm; clear f1_ f2_ f3_; subst f4_; subst f5_))
        refine hK.out _ _ ⟨(kp_ HB hw1002_0 :), (kp_ HB hw1002_1 :), (kp_ HB hw1003_0 :), (kp_ HB hw1003_1 :), (kp_ HB hw1005_0 :), (kp_ HB hw1005_1 :), (kp_ HB hw1006_0 :), (kp_ HB hw1006_1 :)⟩ (fun hHeld => ?_)
        clear hK K
        refine norm_ (a' := ?_) ?_ ?_
        rotate_left
        ·show Act.put _ (some 37) _ = _
         simp only [Act.put, List.setIfInBounds_toArray, List.set_cons_zero, List.set_cons_succ, i64_w, i32_w]
         rfl
        refine one_ (i := 23) (N := some 38) (bz 25 16777215) rfl rfl (one_of HT_.out (by kernel_rfl)) (by decide) (fun K hK => ?_)
        refine goes_ Try.func103 (by kernel_rfl) rfl #[.slice Ao19 y1008.length co19] (by rfl) rfl rfl ag_ ?_
        with_reducible refine (cmp_Or_int.calls k1 _ _ y1008 t1011 _ ?side1 ?side2 A10.out).mono ?_
        (case side1 => exact cc_ (Kd.R_reads' HO1010.out).2.2)
        (case side2 => exact (Kd.R_reads' HO1010.out).2.1)
        rintro e w' ⟨rfl, ⟨nd, rfl⟩⟩
        refine ⟨_, rfl, ?_⟩
        refine hK.out _ _ ⟨(kp_ HB hw1002_0 :), (kp_ HB hw1002_1 :), (kp_ HB hw1003_0 :), (kp_ HB hw1003_1 :), (kp_ HB hw1005_0 :), (kp_ HB hw1005_1 :), (kp_ HB hw1006_0 :), (kp_ HB hw1006_1 :)⟩ (fun hHeld => ?_)
        clear hK K
        refine norm_ (a' := ?_) ?_ ?_
        rotate_left
        ·show Act.put _ (some 38) _ = _
         simp only [Act.put, List.setIfInBounds_toArray, List.set_cons_zero, List.set_cons_succ, i64_w, i32_w]
         rfl
        refine pz_ 24 6 33554431 ?_
        refine done_ (done_of HT_.out (by kernel_rfl)) ?_
        try go_wp2
        go_ret
        exact ⟨by first | rfl | (simp [errW_none, errW_some] <;> rfl) | (simp only [← hji3]; first | rfl | (simp [errW_none, errW_some] <;> rfl)) | (simp [*, errW_none, errW_some] <;> rfl) | (simp [*, Go.Proofs.Ytknlgignjbghkaa.Gt.nil_bne]; done), bl_⟩
      ·rw [if_neg c7] at H
       exact absurd H (by simp)
     ·rw [if_neg c6] at H
      exact absurd H (by simp)
    ·rw [if_neg c5] at H
     exact absurd H (by simp)
   ·rw [if_neg c4] at H
    have c4b0 : decide (x12_1 < ji3) = false := decide_eq_false c4
    clear c4
    replace H := Option.bind_eq_some_iff.mp H
    obtain ⟨t1001, A200, H⟩ := H
    replace H : (some t1001) = some r := H
    have A20 := am_ A200
    clear A200
    obtain rfl := Option.some.inj H
    go_wp2_with (first | ((with_reducible refine gate_callee (f := 105) rfl ?_); refine goesL_ (some 47) rfl rfl Try.func105 (by kernel_rfl) rfl #[.int .i64 (l0.length : Int), .int .i64 (l1.length : Int)] rfl ag_ ?_; (with_reducible refine (cmp_Compare_int.calls (l0.length : Int) (l1.length : Int) t1001 _ A20.out).mono ?_); rintro e w' ⟨rfl, ⟨nd, rfl⟩⟩; refine ⟨_, rfl, ?_⟩))
    go_ret
    exact ⟨by first | rfl | (simp [errW_none, errW_some] <;> rfl) | (simp only [← hji3]; first | rfl | (simp [errW_none, errW_some] <;> rfl)) | (simp [*, errW_none, errW_some] <;> rfl) | (simp [*, Go.Proofs.Ytknlgignjbghkaa.Gt.nil_bne]; done), bl_⟩

/-! ### impl_GoodSamples: function 98 -/
def impl_GoodSamples.l0 : Nat → List (S85) → List (S85) → Int → Int → Option (Bool)
 | 0, _, _, _, _ => none
 | k + 1, x0, x8, x9, x10 => if x10 < x9 then (if 0 ≤ x10 then (if x10 < (x8.length : Int) then ((impl_isTime.f ((rd_T85 x8 x10).f0)).bind fun t1003 => (if t1003 = true then (if x10 > 0 then (if 0 ≤ (wrap64 (x10 - 1)) then (if (wrap64 (x10 - 1)) < (x0.length : Int) then (if ((rd_T85 x0 (wrap64 (x10 - 1))).f0) ≥ ((rd_T85 x8 x10).f0) then (some false) else (impl_GoodSamples.l0 k x0 x8 x9 (wrap64 (x10 + 1)))) else (none)) else (none)) else (impl_GoodSamples.l0 k x0 x8 x9 (wrap64 (x10 + 1)))) else (some false))) else (none)) else (none)) else (some true)
def impl_GoodSamples.f (k : Nat) (l0 : List (S85)) : Option (Bool) := if (l0.length : Int) > 2000 then (some false) else (impl_GoodSamples.l0 k l0 l0 (l0.length : Int) 0)
theorem impl_GoodSamples.mono_l : ∀ k, (∀ y0 y1 y2 y3, LeO (impl_GoodSamples.l0 k y0 y1 y2 y3) (impl_GoodSamples.l0 (k + 1) y0 y1 y2 y3))
 | 0 => fun _ _ _ _ r h => by simp [impl_GoodSamples.l0] at h
 | k + 1 => by
  have ih0 := impl_GoodSamples.mono_l k
  ·intro y0 y1 y2 y3
   unfold impl_GoodSamples.l0
   repeat' first
   | with_reducible first | exact ih0 _ _ _ _ | exact LeO.refl _ | exact LeO.none _ | refine LeO.ite ?_ ?_ | refine LeO.bind ?_ (fun _ => ?_)
   | exact ih0 _ _ _ _
   | exact LeO.none _
   | refine LeO.ite ?_ ?_
   | refine LeO.bind ?_ (fun _ => ?_)
theorem impl_GoodSamples.mono : ∀ a0 k, LeO (impl_GoodSamples.f k a0) (impl_GoodSamples.f (k + 1) a0) := by
 intro a0 k
 have ih0 := impl_GoodSamples.mono_l k
 unfold impl_GoodSamples.f
 repeat' first
   | with_reducible first | exact ih0 _ _ _ _ | exact LeO.refl _ | exact LeO.none _ | refine LeO.ite ?_ ?_ | refine LeO.bind ?_ (fun _ => ?_)
   | exact ih0 _ _ _ _
   | exact LeO.none _
   | refine LeO.ite ?_ ?_
   | refine LeO.bind ?_ (fun _ => ?_)
set_option maxHeartbeats 8000000 in
set_option maxRecDepth 100000 in
theorem impl_GoodSamples.calls (k : Nat) (A0 : Option Addr) (c0 : Nat) (l0 : List (S85)) (r : Bool) (w : World) (hr0 : Kd.C k85 w A0 l0.length l0) (hc0 : l0.length ≤ c0) (h : impl_GoodSamples.f k l0 = some r) :
  Calls Try.prog 98 #[.slice A0 l0.length c0] w fun e w' => e = .returned (.bool r) ∧ Below w.heap.size w w' := by
 have hu85 := Try.underlying85
 have HR0 := am_ hr0
 have HC0 := am_ hc0
 clear hr0 hc0
 have HB := am_ (Below.refl w.heap.size w)
 have H : (if (l0.length : Int) > 2000 then (some false) else (impl_GoodSamples.l0 k l0 l0 (l0.length : Int) 0)) = some r := h
 clear h
 by_cases c2 : (l0.length : Int) > 2000
 ·rw [if_pos c2] at H
  have c2b0 : decide (2000 < (l0.length : Int)) = true := decide_eq_true c2
  have c2b1 : decide (2000 < l0.length) = true := decide_eq_true (by omega)
  clear c2
  obtain rfl := Option.some.inj H
  go_enter Try.func98, Try.ntmps98
  go_wp2
  repeat (go_quiet (fail); try go_wp2)
  go_ret
  exact ⟨rf_, bl_⟩
 ·rw [if_neg c2] at H
  have c2b0 : decide (2000 < (l0.length : Int)) = false := decide_eq_false c2
  have c2b1 : decide (2000 < l0.length) = false := decide_eq_false (by omega)
  clear c2
  have H' := am_ H
  clear H
  go_enter Try.func98, Try.ntmps98
  go_wp2
  repeat (go_quiet (fail); try go_wp2)
  go_loopg [10] k (fun kq v10 w' => ∃ (x10_1 : Int), v10 = .int .i64 x10_1 ∧ Aside0 (impl_GoodSamples.l0 kq l0 l0 (l0.length : Int) x10_1 = some r) ∧ Aside0 (kq ≤ k) ∧ Aside0 (Below w.heap.size w w'))
  case atStart => exact ⟨(0), rs_, H', ⟨Nat.le_refl _⟩, ⟨bl_⟩⟩
  case round =>
   clear H'
   try clear c2
   try clear c2b0
   try clear c2b1
   try clear p2
   obtain ⟨x10_1, rfl, HA, HK1, HB⟩ := hrel
   cases gk with
   | zero => exact absurd HA.out (by simp [impl_GoodSamples.l0])
   | succ k1 =>
    have H := HA.out
    clear HA
    simp only [impl_GoodSamples.l0] at H
    by_cases c3 : x10_1 < (l0.length : Int)
    ·rw [if_pos c3] at H
     have c3b0 : decide (x10_1 < (l0.length : Int)) = true := decide_eq_true c3
     clear c3
     by_cases c4 : 0 ≤ x10_1
     ·rw [if_pos c4] at H
      have c4b0 : decide (0 ≤ x10_1) = true := decide_eq_true c4
      clear c4
      by_cases c5 : x10_1 < (l0.length : Int)
      ·rw [if_pos c5] at H
       have c5b0 : decide (x10_1 < (l0.length : Int)) = true := decide_eq_true c5
       clear c5
       replace H := Option.bind_eq_some_iff.mp H
       obtain ⟨t1003, A60, H⟩ := H
       replace H : (if t1003 = true then (if x10_1 > 0 then (if 0 ≤ (wrap64 (x10_1 - 1)) then (if (wrap64 (x10_1 - 1)) < (l0.length : Int) then (if ((rd_T85 l0 (wrap64 (x10_1 - 1))).f0) ≥ ((rd_T85 l0 x10_1).f0) then (some false) else (impl_GoodSamples.l0 k1 l0 l0 (l0.length : Int) (wrap64 (x10_1 + 1)))) else (none)) else (none)) else (impl_GoodSamples.l0 k1 l0 l0 (l0.length : Int) (wrap64 (x10_1 + 1)))) else (some false)) = some r := H
       have A6 := am_ A60
       clear A60
       by_cases c7 : t1003 = true
       ·subst c7
        have H1 : (if x10_1 > 0 then (if 0 ≤ (wrap64 (x10_1 - 1)) then (if (wrap64 (x10_1 - 1)) < (l0.length : Int) then (if ((rd_T85 l0 (wrap64 (x10_1 - 1))).f0) ≥ ((rd_T85 l0 x10_1).f0) then (some false) else (impl_GoodSamples.l0 k1 l0 l0 (l0.length : Int) (wrap64 (x10_1 + 1)))) else (none)) else (none)) else (impl_GoodSamples.l0 k1 l0 l0 (l0.length : Int) (wrap64 (x10_1 + 1)))) = some r := by rw [if_pos rfl] at H; exact H
        clear H
        have H := H1
        clear H1
        by_cases c8 : x10_1 > 0
        ·rw [if_pos c8] at H
         have c8b0 : decide (0 < x10_1) = true := decide_eq_true c8
         clear c8
         obtain ⟨ji9, hji9⟩ : ∃ j_ : Int, (wrap64 (x10_1 - 1)) = j_ := ⟨_, rfl⟩
         replace H : (if 0 ≤ (ji9) then (if (ji9) < (l0.length : Int) then (if ((rd_T85 l0 (ji9)).f0) ≥ ((rd_T85 l0 x10_1).f0) then (some false) else (impl_GoodSamples.l0 k1 l0 l0 (l0.length : Int) (wrap64 (x10_1 + 1)))) else (none)) else (none)) = some r := by first | (rw [hji9] at H; exact H) | (simp only [hji9] at H ⊢; exact H)
         (try rw [hji9] at A6)
         have hji9w : (IntKind.i64.wrap (x10_1 - 1)) = ji9 := (i64_w _).trans hji9
         by_cases c10 : 0 ≤ (ji9)
         ·rw [if_pos c10] at H
          have c10b0 : decide (0 ≤ (ji9)) = true := decide_eq_true c10
          clear c10
          by_cases c11 : (ji9) < (l0.length : Int)
          ·rw [if_pos c11] at H
           have c11b0 : decide ((ji9) < (l0.length : Int)) = true := decide_eq_true c11
           clear c11
           by_cases c12 : ((rd_T85 l0 (ji9)).f0) ≥ ((rd_T85 l0 x10_1).f0)
           ·rw [if_pos c12] at H
            have c12b0 : decide (((rd_T85 l0 x10_1).f0) ≤ ((rd_T85 l0 (ji9)).f0)) = true := decide_eq_true c12
            clear c12
            obtain rfl := Option.some.inj H
            have p1001 : 0 ≤ (x10_1 : Int) := od_
            have q1001 : x10_1 < (l0.length : Int) := od_
            obtain ⟨ad1001, e1001, hx1001_0, hx1001_1⟩ := at_T85 HR0.out x10_1 p1001 q1001
            cases e1001
            replace hx1001_0 := kp_ HB hx1001_0
            replace hx1001_1 := kp_ HB hx1001_1
            replace p1001 := eq_true p1001
            replace q1001 := eq_true q1001
            go_wp2_with (first | ((with_reducible refine gate_dst (N := 4) rfl ?_); refine bx_ 4 #[.int .i64 0, .int .i64 0] 85 ?_; intro gb1002 hg w13 hbox hb; have BK1002 := am_ (hbox); have GW1002 := am_ (gs_ hg : w.heap.size ≤ gb1002); replace HB := am_ (below_step bl_ hb); have GE1002 := GW1002; clear hb hbox hg; have hcz14_0 := bc2_0 BK1002; have hcz14_1 := bc2_1 BK1002; have hfz14_0 := bf_ BK1002 0; have hfz14_1 := bf_ BK1002 1) | (go_at_call 52; (with_reducible refine (impl_isTime.calls ((rd_T85 l0 x10_1).f0) true _ A6.out).mono ?_); rintro e w' ⟨rfl, ⟨nd, rfl⟩⟩; (try exact dd_); have p1004 : 0 ≤ ((ji9) : Int) := od_; have q1004 : (ji9) < (l0.length : Int) := od_; obtain ⟨ad1004, e1004, hx1004_0, hx1004_1⟩ := at_T85 HR0.out (ji9) p1004 q1004; obtain rfl : ad1001 = ad1004 := (by injection e1004); have hn1004_0 : ad1001.block ≠ gb1002 := hb_ hx1004_0 GW1002; have hn1004_1 : ad1001.block ≠ gb1002 := hb_ hx1004_0 GW1002; replace hx1004_0 := kp_ HB hx1004_0; replace hx1004_1 := kp_ HB hx1004_1; replace hx1004_0 := cf_ gb1002 0 hn1004_0 (.int .i64 ((rd_T85 l0 x10_1).f0)) hx1004_0; replace hx1004_1 := cf_ gb1002 0 hn1004_0 (.int .i64 ((rd_T85 l0 x10_1).f0)) hx1004_1; replace hx1004_0 := cf_ gb1002 1 hn1004_1 (.int .i64 ((rd_T85 l0 x10_1).f1)) hx1004_0; replace hx1004_1 := cf_ gb1002 1 hn1004_1 (.int .i64 ((rd_T85 l0 x10_1).f1)) hx1004_1; (try have hy1004_0 := fun (n_ : Nat) => (show ((((w13.drewN n_).setCell ⟨gb1002, 0, none⟩ (.int .i64 ((rd_T85 l0 x10_1).f0))).setCell ⟨gb1002, 1, none⟩ (.int .i64 ((rd_T85 l0 x10_1).f1)))).cell? _ = some _ from hx1004_0)); (try have hy1004_1 := fun (n_ : Nat) => (show ((((w13.drewN n_).setCell ⟨gb1002, 0, none⟩ (.int .i64 ((rd_T85 l0 x10_1).f0))).setCell ⟨gb1002, 1, none⟩ (.int .i64 ((rd_T85 l0 x10_1).f1)))).cell? _ = some _ from hx1004_1)); clear hn1004_0; clear hn1004_1; replace p1004 := eq_true p1004; replace q1004 := eq_true q1004))
            repeat (go_quiet (first | ((with_reducible refine gate_dst (N := 4) rfl ?_); refine bx_ 4 #[.int .i64 0, .int .i64 0] 85 ?_; intro gb1002 hg w13 hbox hb; have BK1002 := am_ (hbox); have GW1002 := am_ (gs_ hg : w.heap.size ≤ gb1002); replace HB := am_ (below_step bl_ hb); have GE1002 := GW1002; clear hb hbox hg; have hcz14_0 := bc2_0 BK1002; have hcz14_1 := bc2_1 BK1002; have hfz14_0 := bf_ BK1002 0; have hfz14_1 := bf_ BK1002 1) | (go_at_call 52; (with_reducible refine (impl_isTime.calls ((rd_T85 l0 x10_1).f0) true _ A6.out).mono ?_); rintro e w' ⟨rfl, ⟨nd, rfl⟩⟩; (try exact dd_); have p1004 : 0 ≤ ((ji9) : Int) := od_; have q1004 : (ji9) < (l0.length : Int) := od_; obtain ⟨ad1004, e1004, hx1004_0, hx1004_1⟩ := at_T85 HR0.out (ji9) p1004 q1004; obtain rfl : ad1001 = ad1004 := (by injection e1004); have hn1004_0 : ad1001.block ≠ gb1002 := hb_ hx1004_0 GW1002; have hn1004_1 : ad1001.block ≠ gb1002 := hb_ hx1004_0 GW1002; replace hx1004_0 := kp_ HB hx1004_0; replace hx1004_1 := kp_ HB hx1004_1; replace hx1004_0 := cf_ gb1002 0 hn1004_0 (.int .i64 ((rd_T85 l0 x10_1).f0)) hx1004_0; replace hx1004_1 := cf_ gb1002 0 hn1004_0 (.int .i64 ((rd_T85 l0 x10_1).f0)) hx1004_1; replace hx1004_0 := cf_ gb1002 1 hn1004_1 (.int .i64 ((rd_T85 l0 x10_1).f1)) hx1004_0; replace hx1004_1 := cf_ gb1002 1 hn1004_1 (.int .i64 ((rd_T85 l0 x10_1).f1)) hx1004_1; (try have hy1004_0 := fun (n_ : Nat) => (show ((((w13.drewN n_).setCell ⟨gb1002, 0, none⟩ (.int .i64 ((rd_T85 l0 x10_1).f0))).setCell ⟨gb1002, 1, none⟩ (.int .i64 ((rd_T85 l0 x10_1).f1)))).cell? _ = some _ from hx1004_0)); (try have hy1004_1 := fun (n_ : Nat) => (show ((((w13.drewN n_).setCell ⟨gb1002, 0, none⟩ (.int .i64 ((rd_T85 l0 x10_1).f0))).setCell ⟨gb1002, 1, none⟩ (.int .i64 ((rd_T85 l0 x10_1).f1)))).cell? _ = some _ from hx1004_1)); clear hn1004_0; clear hn1004_1; replace p1004 := eq_true p1004; replace q1004 := eq_true q1004)); try go_wp2)
            go_ret
            exact ⟨by first | rfl | (simp [errW_none, errW_some] <;> rfl) | (simp only [← hji9]; first | rfl | (simp [errW_none, errW_some] <;> rfl)) | (simp [*, errW_none, errW_some] <;> rfl) | (simp [*, Go.Proofs.Ytknlgignjbghkaa.Gt.nil_bne]; done), bg_⟩
           ·rw [if_neg c12] at H
            have c12b0 : decide (((rd_T85 l0 x10_1).f0) ≤ ((rd_T85 l0 (ji9)).f0)) = false := decide_eq_false c12
            clear c12
            have H' := am_ H
            clear H
            have p1001 : 0 ≤ (x10_1 : Int) := od_
            have q1001 : x10_1 < (l0.length : Int) := od_
            obtain ⟨ad1001, e1001, hx1001_0, hx1001_1⟩ := at_T85 HR0.out x10_1 p1001 q1001
            cases e1001
            replace hx1001_0 := kp_ HB hx1001_0
            replace hx1001_1 := kp_ HB hx1001_1
            replace p1001 := eq_true p1001
            replace q1001 := eq_true q1001
            go_wp2_with (first | ((with_reducible refine gate_dst (N := 4) rfl ?_); refine bx_ 4 #[.int .i64 0, .int .i64 0] 85 ?_; intro gb1002 hg w15 hbox hb; have BK1002 := am_ (hbox); have GW1002 := am_ (gs_ hg : w.heap.size ≤ gb1002); replace HB := am_ (below_step bl_ hb); have GE1002 := GW1002; clear hb hbox hg; have hcz16_0 := bc2_0 BK1002; have hcz16_1 := bc2_1 BK1002; have hfz16_0 := bf_ BK1002 0; have hfz16_1 := bf_ BK1002 1) | (go_at_call 52; (with_reducible refine (impl_isTime.calls ((rd_T85 l0 x10_1).f0) true _ A6.out).mono ?_); rintro e w' ⟨rfl, ⟨nd, rfl⟩⟩; (try exact dd_); have p1004 : 0 ≤ ((ji9) : Int) := od_; have q1004 : (ji9) < (l0.length : Int) := od_; obtain ⟨ad1004, e1004, hx1004_0, hx1004_1⟩ := at_T85 HR0.out (ji9) p1004 q1004; obtain rfl : ad1001 = ad1004 := (by injection e1004); have hn1004_0 : ad1001.block ≠ gb1002 := hb_ hx1004_0 GW1002; have hn1004_1 : ad1001.block ≠ gb1002 := hb_ hx1004_0 GW1002; replace hx1004_0 := kp_ HB hx1004_0; replace hx1004_1 := kp_ HB hx1004_1; replace hx1004_0 := cf_ gb1002 0 hn1004_0 (.int .i64 ((rd_T85 l0 x10_1).f0)) hx1004_0; replace hx1004_1 := cf_ gb1002 0 hn1004_0 (.int .i64 ((rd_T85 l0 x10_1).f0)) hx1004_1; replace hx1004_0 := cf_ gb1002 1 hn1004_1 (.int .i64 ((rd_T85 l0 x10_1).f1)) hx1004_0; replace hx1004_1 := cf_ gb1002 1 hn1004_1 (.int .i64 ((rd_T85 l0 x10_1).f1)) hx1004_1; (try have hy1004_0 := fun (n_ : Nat) => (show ((((w15.drewN n_).setCell ⟨gb1002, 0, none⟩ (.int .i64 ((rd_T85 l0 x10_1).f0))).setCell ⟨gb1002, 1, none⟩ (.int .i64 ((rd_T85 l0 x10_1).f1)))).cell? _ = some _ from hx1004_0)); (try have hy1004_1 := fun (n_ : Nat) => (show ((((w15.drewN n_).setCell ⟨gb1002, 0, none⟩ (.int .i64 ((rd_T85 l0 x10_1).f0))).setCell ⟨gb1002, 1, none⟩ (.int .i64 ((rd_T85 l0 x10_1).f1)))).cell? _ = some _ from hx1004_1)); clear hn1004_0; clear hn1004_1; replace p1004 := eq_true p1004; replace q1004 := eq_true q1004))
            repeat (go_quiet (first | ((with_reducible refine gate_dst (N := 4) rfl ?_); refine bx_ 4 #[.int .i64 0, .int .i64 0] 85 ?_; intro gb1002 hg w15 hbox hb; have BK1002 := am_ (hbox); have GW1002 := am_ (gs_ hg : w.heap.size ≤ gb1002); replace HB := am_ (below_step bl_ hb); have GE1002 := GW1002; clear hb hbox hg; have hcz16_0 := bc2_0 BK1002; have hcz16_1 := bc2_1 BK1002; have hfz16_0 := bf_ BK1002 0; have hfz16_1 := bf_ BK1002 1) | (go_at_call 52; (with_reducible refine (impl_isTime.calls ((rd_T85 l0 x10_1).f0) true _ A6.out).mono ?_); rintro e w' ⟨rfl, ⟨nd, rfl⟩⟩; (try exact dd_); have p1004 : 0 ≤ ((ji9) : Int) := od_; have q1004 : (ji9) < (l0.length : Int) := od_; obtain ⟨ad1004, e1004, hx1004_0, hx1004_1⟩ := at_T85 HR0.out (ji9) p1004 q1004; obtain rfl : ad1001 = ad1004 := (by injection e1004); have hn1004_0 : ad1001.block ≠ gb1002 := hb_ hx1004_0 GW1002; have hn1004_1 : ad1001.block ≠ gb1002 := hb_ hx1004_0 GW1002; replace hx1004_0 := kp_ HB hx1004_0; replace hx1004_1 := kp_ HB hx1004_1; replace hx1004_0 := cf_ gb1002 0 hn1004_0 (.int .i64 ((rd_T85 l0 x10_1).f0)) hx1004_0; replace hx1004_1 := cf_ gb1002 0 hn1004_0 (.int .i64 ((rd_T85 l0 x10_1).f0)) hx1004_1; replace hx1004_0 := cf_ gb1002 1 hn1004_1 (.int .i64 ((rd_T85 l0 x10_1).f1)) hx1004_0; replace hx1004_1 := cf_ gb1002 1 hn1004_1 (.int .i64 ((rd_T85 l0 x10_1).f1)) hx1004_1; (try have hy1004_0 := fun (n_ : Nat) => (show ((((w15.drewN n_).setCell ⟨gb1002, 0, none⟩ (.int .i64 ((rd_T85 l0 x10_1).f0))).setCell ⟨gb1002, 1, none⟩ (.int .i64 ((rd_T85 l0 x10_1).f1)))).cell? _ = some _ from hx1004_0)); (try have hy1004_1 := fun (n_ : Nat) => (show ((((w15.drewN n_).setCell ⟨gb1002, 0, none⟩ (.int .i64 ((rd_T85 l0 x10_1).f0))).setCell ⟨gb1002, 1, none⟩ (.int .i64 ((rd_T85 l0 x10_1).f1)))).cell? _ = some _ from hx1004_1)); clear hn1004_0; clear hn1004_1; replace p1004 := eq_true p1004; replace q1004 := eq_true q1004)); try go_wp2)
            go_roundg k1
            case measure => have := HK1.out; omega
            case rel => exact ⟨(wrap64 (x10_1 + 1)), rs_, H', ⟨by have := HK1.out; omega⟩, ⟨bg_⟩⟩
          ·rw [if_neg c11] at H
           exact absurd H (by simp)
         ·rw [if_neg c10] at H
          exact absurd H (by simp)
        ·rw [if_neg c8] at H
         have c8b0 : decide (0 < x10_1) = false := decide_eq_false c8
         clear c8
         have H' := am_ H
         clear H
         have p1001 : 0 ≤ (x10_1 : Int) := od_
         have q1001 : x10_1 < (l0.length : Int) := od_
         obtain ⟨ad1001, e1001, hx1001_0, hx1001_1⟩ := at_T85 HR0.out x10_1 p1001 q1001
         cases e1001
         replace hx1001_0 := kp_ HB hx1001_0
         replace hx1001_1 := kp_ HB hx1001_1
         replace p1001 := eq_true p1001
         replace q1001 := eq_true q1001
         go_wp2_with (first | ((with_reducible refine gate_dst (N := 4) rfl ?_); refine bx_ 4 #[.int .i64 0, .int .i64 0] 85 ?_; intro gb1002 hg w17 hbox hb; have BK1002 := am_ (hbox); have GW1002 := am_ (gs_ hg : w.heap.size ≤ gb1002); replace HB := am_ (below_step bl_ hb); have GE1002 := GW1002; clear hb hbox hg; have hcz18_0 := bc2_0 BK1002; have hcz18_1 := bc2_1 BK1002; have hfz18_0 := bf_ BK1002 0; have hfz18_1 := bf_ BK1002 1) | (go_at_call 52; (with_reducible refine (impl_isTime.calls ((rd_T85 l0 x10_1).f0) true _ A6.out).mono ?_); rintro e w' ⟨rfl, ⟨nd, rfl⟩⟩; (try exact dd_)))
         repeat (go_quiet (first | ((with_reducible refine gate_dst (N := 4) rfl ?_); refine bx_ 4 #[.int .i64 0, .int .i64 0] 85 ?_; intro gb1002 hg w17 hbox hb; have BK1002 := am_ (hbox); have GW1002 := am_ (gs_ hg : w.heap.size ≤ gb1002); replace HB := am_ (below_step bl_ hb); have GE1002 := GW1002; clear hb hbox hg; have hcz18_0 := bc2_0 BK1002; have hcz18_1 := bc2_1 BK1002; have hfz18_0 := bf_ BK1002 0; have hfz18_1 := bf_ BK1002 1) | (go_at_call 52; (with_reducible refine (impl_isTime.calls ((rd_T85 l0 x10_1).f0) true _ A6.out).mono ?_); rintro e w' ⟨rfl, ⟨nd, rfl⟩⟩; (try exact dd_))); try go_wp2)
         go_roundg k1
         case measure => have := HK1.out; omega
         case rel => exact ⟨(wrap64 (x10_1 + 1)), rs_, H', ⟨by have := HK1.out; omega⟩, ⟨bg_⟩⟩
       ·replace c7 := Bool.eq_false_iff.mpr c7
        subst c7
        have H1 : (some false) = some r := by rw [if_neg (show ¬ (false = true) by decide)] at H; exact H
        clear H
        have H := H1
        clear H1
        obtain rfl := Option.some.inj H
        have p1001 : 0 ≤ (x10_1 : Int) := od_
        have q1001 : x10_1 < (l0.length : Int) := od_
        obtain ⟨ad1001, e1001, hx1001_0, hx1001_1⟩ := at_T85 HR0.out x10_1 p1001 q1001
        cases e1001
        replace hx1001_0 := kp_ HB hx1001_0
        replace hx1001_1 := kp_ HB hx1001_1
        replace p1001 := eq_true p1001
        replace q1001 := eq_true q1001
        go_wp2_with (first | ((with_reducible refine gate_dst (N := 4) rfl ?_); refine bx_ 4 #[.int .i64 0, .int .i64 0] 85 ?_; intro gb1002 hg w19 hbox hb; have BK1002 := am_ (hbox); have GW1002 := am_ (gs_ hg : w.heap.size ≤ gb1002); replace HB := am_ (below_step bl_ hb); have GE1002 := GW1002; clear hb hbox hg; have hcz20_0 := bc2_0 BK1002; have hcz20_1 := bc2_1 BK1002; have hfz20_0 := bf_ BK1002 0; have hfz20_1 := bf_ BK1002 1) | (go_at_call 52; (with_reducible refine (impl_isTime.calls ((rd_T85 l0 x10_1).f0) false _ A6.out).mono ?_); rintro e w' ⟨rfl, ⟨nd, rfl⟩⟩; (try exact dd_)))
        repeat (go_quiet (first | ((with_reducible refine gate_dst (N := 4) rfl ?_); refine bx_ 4 #[.int .i64 0, .int .i64 0] 85 ?_; intro gb1002 hg w19 hbox hb; have BK1002 := am_ (hbox); have GW1002 := am_ (gs_ hg : w.heap.size ≤ gb1002); replace HB := am_ (below_step bl_ hb); have GE1002 := GW1002; clear hb hbox hg; have hcz20_0 := bc2_0 BK1002; have hcz20_1 := bc2_1 BK1002; have hfz20_0 := bf_ BK1002 0; have hfz20_1 := bf_ BK1002 1) | (go_at_call 52; (with_reducible refine (impl_isTime.calls ((rd_T85 l0 x10_1).f0) false _ A6.out).mono ?_); rintro e w' ⟨rfl, ⟨nd, rfl⟩⟩; (try exact dd_))); try go_wp2)
        go_ret
        exact ⟨rf_, bg_⟩
      ·rw [if_neg c5] at H
       exact absurd H (by simp)
     ·rw [if_neg c4] at H
      exact absurd H (by simp)
    ·rw [if_neg c3] at H
     have c3b0 : decide (x10_1 < (l0.length : Int)) = false := decide_eq_false c3
     clear c3
     obtain rfl := Option.some.inj H
     go_wp2
     repeat (go_quiet (fail); try go_wp2)
     go_ret
     exact ⟨rf_, bl_⟩

end Go.Proofs.Ytknlgignjbghkaa.Pr
