/- Functions of the given program as plain Lean functions, and that the machine's calls come to them; written by a program of this session; no condition but those that each theorem states. -/
import Derived.Test.YtjapdjkckhcelaaPrx0
import Derived.Test.YtjapdjkckhcelaaPrxgd801bn1
namespace Go.Proofs.Ytjapdjkckhcelaa.Pr
open Go.RowKit Go.Proofs.YtjapdjkckhcelaaW.PrintWords Go.Proofs.YtjapdjkckhcelaaW.PrintLast Go.Proofs.YtjapdjkckhcelaaW.PrintMore
attribute [local go_sem] max2_int min2_int max_two min_two max_three min_three max_four min_four   -- for this text's walks alone
set_option linter.unusedVariables false
set_option linter.unusedSimpArgs false

/-! ### spec_l1Put: function 116 -/
def spec_l1Put.f (l0_0 : List Int) (a0_1 : Int) (a1 : Int) : Option (List Int × Int) := if (Int.tmod a0_1 8) = 0 then (if l0_0.length < 140737488355328 then ((some (l0_0 ++ [0] : List Int)).bind fun y1003 => (if a1 = 1 then (if 0 ≤ (wrap64 (Int.tdiv a0_1 8)) then (if (wrap64 (Int.tdiv a0_1 8)) < (y1003.length : Int) then (if 0 ≤ (IntKind.u64.wrap (Int.tmod a0_1 8)) then (some ((y1003.set ((wrap64 (Int.tdiv a0_1 8)) : Int).toNat (Go.bits .or .u8 (rd y1003 (wrap64 (Int.tdiv a0_1 8))) (shr .u8 128 (IntKind.u64.wrap (Int.tmod a0_1 8))))), wrap64 (a0_1 + 1))) else (none)) else (none)) else (none)) else (some (y1003, wrap64 (a0_1 + 1))))) else (none)) else (if a1 = 1 then (if 0 ≤ (wrap64 (Int.tdiv a0_1 8)) then (if (wrap64 (Int.tdiv a0_1 8)) < (l0_0.length : Int) then (if 0 ≤ (IntKind.u64.wrap (Int.tmod a0_1 8)) then (some ((l0_0.set ((wrap64 (Int.tdiv a0_1 8)) : Int).toNat (Go.bits .or .u8 (rd l0_0 (wrap64 (Int.tdiv a0_1 8))) (shr .u8 128 (IntKind.u64.wrap (Int.tmod a0_1 8))))), wrap64 (a0_1 + 1))) else (none)) else (none)) else (none)) else (some (l0_0, wrap64 (a0_1 + 1))))
def spec_l1Put.T4 : Bool × List (List Nat × List Nat) := (true, [([], []), ([0], [0]), ([], []), ([2], [2]), ([3], [3]), ([1, 4], [1, 4]), ([5], [5]), ([], []), ([7], [7]), ([8], [8]), ([9], [9]), ([10], [10]), ([6, 11], [6, 11]), ([1, 4, 0, 1, 2, 3, 4, 5, 6, 7, 8, 9, 10, 11, 12], [1, 4]), ([13, 12, 0, 1, 2, 3, 4, 5, 6, 7, 8, 9, 10, 11, 12], [12, 13])])
def spec_l1Put.B4 : List Nat := [0, 1, 0, 4, 12, 31, 63, 0, 128, 384, 896, 1920, 4095, 8191, 16383]
theorem spec_l1Put.tab4 : rtab .any (opsOf Try.f116 4) = spec_l1Put.T4 := by kernel_rfl
theorem spec_l1Put.bits4 : waitsOk spec_l1Put.T4.2 spec_l1Put.B4 = true := by kernel_rfl
set_option maxHeartbeats 8000000 in
set_option maxRecDepth 100000 in
theorem spec_l1Put.calls (P0_0_ : Nat → Prop) (u9000_ : Value) (l0_0 : List Int) (a0_1 : Int) (a1 : Int) (r1 : List Int) (r2 : Int) (w0 w : World) (hB : Below w0.heap.size w0 w) (ho0_0 : Kd.R (Kd.int .u8) 5 w w0.heap.size P0_0_ u9000_ l0_0) (h : spec_l1Put.f l0_0 a0_1 a1 = some (r1, r2)) :
  Calls Try.prog 116 #[.agg #[u9000_, .int .i64 a0_1], .int .i64 a1] w fun e w' => ∃ v0_ : Value, e = .returned (.agg #[v0_, .int .i64 r2]) ∧ Kd.R (Kd.int .u8) 5 w' w0.heap.size (fun k_ => (P0_0_ k_ ∨ w.heap.size ≤ k_)) v0_ r1 ∧ Below w0.heap.size w0 w' ∧ Kept w w' (fun k_ => P0_0_ k_) := by
 have hu28 := Try.underlying28
 have HO0_0 := am_ (show Kd.R (Kd.int .u8) 5 w w0.heap.size (fun k_ => (P0_0_ k_ ∨ w.heap.size ≤ k_)) u9000_ l0_0 from Kd.R_mono ho0_0 (fun k_ hk => (.inl hk)))
 have HK := am_ (Kept.refl w (fun k_ => P0_0_ k_))
 have HW0 := am_ hB.size
 have HB := am_ hB
 clear hB
 have H : (if (Int.tmod a0_1 8) = 0 then (if l0_0.length < 140737488355328 then ((some (l0_0 ++ [0] : List Int)).bind fun y1003 => (if a1 = 1 then (if 0 ≤ (wrap64 (Int.tdiv a0_1 8)) then (if (wrap64 (Int.tdiv a0_1 8)) < (y1003.length : Int) then (if 0 ≤ (IntKind.u64.wrap (Int.tmod a0_1 8)) then (some ((y1003.set ((wrap64 (Int.tdiv a0_1 8)) : Int).toNat (Go.bits .or .u8 (rd y1003 (wrap64 (Int.tdiv a0_1 8))) (shr .u8 128 (IntKind.u64.wrap (Int.tmod a0_1 8))))), wrap64 (a0_1 + 1))) else (none)) else (none)) else (none)) else (some (y1003, wrap64 (a0_1 + 1))))) else (none)) else (if a1 = 1 then (if 0 ≤ (wrap64 (Int.tdiv a0_1 8)) then (if (wrap64 (Int.tdiv a0_1 8)) < (l0_0.length : Int) then (if 0 ≤ (IntKind.u64.wrap (Int.tmod a0_1 8)) then (some ((l0_0.set ((wrap64 (Int.tdiv a0_1 8)) : Int).toNat (Go.bits .or .u8 (rd l0_0 (wrap64 (Int.tdiv a0_1 8))) (shr .u8 128 (IntKind.u64.wrap (Int.tmod a0_1 8))))), wrap64 (a0_1 + 1))) else (none)) else (none)) else (none)) else (some (l0_0, wrap64 (a0_1 + 1))))) = some (r1, r2) := h
 clear h
 by_cases c3 : (Int.tmod a0_1 8) = 0
 ·rw [if_pos c3] at H
  have c3b0 : ((Int.tmod a0_1 8) == 0) = true := beq_iff_eq.mpr c3
  have c3b1 : ((Int.tmod a0_1 8) != 0) = false := bne_eq_false_iff_eq.mpr c3
  clear c3
  by_cases c4 : l0_0.length < 140737488355328
  ·rw [if_pos c4] at H
   have LMc4 := am_ c4
   clear c4
   obtain ⟨y1003, hy1003⟩ : ∃ y_ : List Int, y_ = (l0_0 ++ [0]) := ⟨_, rfl⟩
   replace H : (if a1 = 1 then (if 0 ≤ (wrap64 (Int.tdiv a0_1 8)) then (if (wrap64 (Int.tdiv a0_1 8)) < (y1003.length : Int) then (if 0 ≤ (IntKind.u64.wrap (Int.tmod a0_1 8)) then (some ((y1003.set ((wrap64 (Int.tdiv a0_1 8)) : Int).toNat (Go.bits .or .u8 (rd y1003 (wrap64 (Int.tdiv a0_1 8))) (shr .u8 128 (IntKind.u64.wrap (Int.tmod a0_1 8))))), wrap64 (a0_1 + 1))) else (none)) else (none)) else (none)) else (some (y1003, wrap64 (a0_1 + 1)))) = some (r1, r2) := by first | (rw [hy1003]; with_reducible exact H) | (have H2_ := (Option.bind_some _ _).symm.trans H; rw [hy1003]; with_reducible exact H2_) | (have H2_ := (Option.bind_some _ _).symm.trans H; with_reducible exact H2_) | with_reducible exact H | (rw [hy1003]; exact H) | exact H
   have Ny1003 := am_ hy1003
   clear hy1003
   by_cases c5 : a1 = 1
   ·rw [if_pos c5] at H
    have c5b0 : (a1 == 1) = true := beq_iff_eq.mpr c5
    have c5b1 : (a1 != 1) = false := bne_eq_false_iff_eq.mpr c5
    clear c5
    obtain ⟨ji6, hji6⟩ : ∃ j_ : Int, (wrap64 (Int.tdiv a0_1 8)) = j_ := ⟨_, rfl⟩
    replace H : (if 0 ≤ (ji6) then (if (ji6) < (y1003.length : Int) then (if 0 ≤ (IntKind.u64.wrap (Int.tmod a0_1 8)) then (some ((y1003.set ((ji6) : Int).toNat (Go.bits .or .u8 (rd y1003 (ji6)) (shr .u8 128 (IntKind.u64.wrap (Int.tmod a0_1 8))))), wrap64 (a0_1 + 1))) else (none)) else (none)) else (none)) = some (r1, r2) := by first | (rw [hji6] at H; exact H) | (simp only [hji6] at H ⊢; exact H)
    have hji6w : (IntKind.i64.wrap (Int.tdiv a0_1 8)) = ji6 := (i64_w _).trans hji6
    by_cases c7 : 0 ≤ (ji6)
    ·rw [if_pos c7] at H
     have c7b0 : decide (0 ≤ (ji6)) = true := decide_eq_true c7
     clear c7
     by_cases c8 : (ji6) < (y1003.length : Int)
     ·rw [if_pos c8] at H
      have c8b0 : decide ((ji6) < (y1003.length : Int)) = true := decide_eq_true c8
      clear c8
      obtain ⟨ji9, hji9⟩ : ∃ j_ : Int, (IntKind.u64.wrap (Int.tmod a0_1 8)) = j_ := ⟨_, rfl⟩
      replace H : (if 0 ≤ (ji9) then (some ((y1003.set ((ji6) : Int).toNat (Go.bits .or .u8 (rd y1003 (ji6)) (shr .u8 128 (ji9)))), wrap64 (a0_1 + 1))) else (none)) = some (r1, r2) := by first | (rw [hji9] at H; exact H) | (simp only [hji9] at H ⊢; exact H)
      by_cases c10 : 0 ≤ (ji9)
      ·rw [if_pos c10] at H
       have c10b0 := eq_true c10
       have c10b1 : decide (0 ≤ (ji9)) = true := decide_eq_true c10
       clear c10
       obtain ⟨ji11, hji11⟩ : ∃ j_ : Int, (shr .u8 128 (ji9)) = j_ := ⟨_, rfl⟩
       replace H : (some ((y1003.set ((ji6) : Int).toNat (Go.bits .or .u8 (rd y1003 (ji6)) (ji11))), wrap64 (a0_1 + 1))) = some (r1, r2) := by first | (rw [hji11] at H; exact H) | (simp only [hji11] at H ⊢; exact H)
       have hji11_ : (128 / 2 ^ min (ji9).toNat 8) = ji11 := hji11
       have hji11z : (ji9) ≤ 8 → (128 / 2 ^ (ji9).toNat) = ji11 := shr_small hji11
       obtain ⟨y1007, hy1007⟩ : ∃ y_ : List Int, y_ = (y1003.set ((ji6) : Int).toNat (Go.bits .or .u8 (rd y1003 (ji6)) (ji11))) := ⟨_, rfl⟩
       replace H : (some (y1007, wrap64 (a0_1 + 1))) = some (r1, r2) := by first | (rw [hy1007]; with_reducible exact H) | (have H2_ := (Option.bind_some _ _).symm.trans H; rw [hy1007]; with_reducible exact H2_) | (have H2_ := (Option.bind_some _ _).symm.trans H; with_reducible exact H2_) | with_reducible exact H | (rw [hy1007]; exact H) | exact H
       have Ny1007 := am_ hy1007
       clear hy1007
       simp only [Option.some.injEq, Prod.mk.injEq] at H
       obtain ⟨rfl, rfl⟩ := H
       obtain ⟨Ao13, co13, eo13⟩ := Kd.R_slice HO0_0.out
       subst eo13
       go_enter Try.func116, Try.ntmps116
       try go_wp2_with (first | ((with_reducible refine gate_dst (N := 2) rfl ?_); refine box_event ?hg (N := 2) ?hd (cs := #[.slice Ao13 l0_0.length co13, .int .i64 a0_1]) (t := 28) ?hr ?_; (case hd => rfl); (case hg => rfl); (case hr => first | (go_simp; done) | (go_simp; rfl)); intro gb1001 hg w14 hbox hb; have n0_ := am_ (Kd.R_below (ro_ HO0_0) hb); have n1_ := am_ (Kept.below (S := (fun k_ => P0_0_ k_)) (by repeat (first | (with_reducible first | exact HK.out | apply Kept.alloc | apply Kept.drewN | apply Kept.drew) | exact HK.out)) hb); have n2_ := am_ (below_step bl_ hb); have n3_ := am_ (hbox); have n4_ := am_ ((by rw [hg]; exact (by first | exact HK.out.1 | exact (show Kept w _ (fun k_ => P0_0_ k_) from by repeat (first | (with_reducible first | exact HK.out | apply Kept.alloc | apply Kept.drewN | apply Kept.drew) | exact HK.out)).1) : w.heap.size ≤ gb1001)); have n5_ := am_ ((by rw [hg]; exact (below_size bl_) : w0.heap.size ≤ gb1001)); clear HO0_0; clear HK; clear HB; have HO0_0 := n0_; have HK := n1_; have HB := n2_; have BK1001 := n3_; have GW1001 := n4_; have GE1001 := n5_; clear n0_ n1_ n2_ n3_ n4_ n5_; clear hb hbox hg) | ((with_reducible refine gate_dst (N := 4) rfl ?_); refine box_event ?hg (N := 4) ?hd (cs := #[.slice none 0 0, .int .i64 0]) (t := 28) ?hr ?_; (case hd => rfl); (case hg => rfl); (case hr => first | (go_simp; done) | (go_simp; rfl)); intro gb1002 hg w15 hbox hb; have n0_ := am_ (Kd.R_below (ro_ HO0_0) hb); have n1_ := am_ (blk_below (g := gb1001) (vk_ BK1001) hb); have n2_ := am_ (Kept.below (S := (fun k_ => P0_0_ k_)) (by repeat (first | (with_reducible first | exact HK.out | apply Kept.alloc | apply Kept.drewN | apply Kept.drew | refine Kept.setCell ?_ (.inr GW1001.out) _) | exact HK.out)) hb); have n3_ := am_ (below_step bg_ hb); have n4_ := am_ (hbox); have n5_ := am_ ((by rw [hg]; exact (by first | exact HK.out.1 | exact (show Kept w _ (fun k_ => P0_0_ k_) from by repeat (first | (with_reducible first | exact HK.out | apply Kept.alloc | apply Kept.drewN | apply Kept.drew | refine Kept.setCell ?_ (.inr GW1001.out) _) | exact HK.out)).1) : w.heap.size ≤ gb1002)); have n6_ := am_ ((by rw [hg]; exact (below_size bg_) : w0.heap.size ≤ gb1002)); have n7_ := am_ ((by rw [hg]; exact Nat.ne_of_lt (blk_lt (g := gb1001) (o := .cells #[.slice Ao13 l0_0.length co13, .int .i64 a0_1] 28 (0, 0)) (vk_ BK1001)) : gb1001 ≠ gb1002)); have n8_ := am_ ((by rw [hg]; exact Nat.ne_of_gt (blk_lt (g := gb1001) (o := .cells #[.slice Ao13 l0_0.length co13, .int .i64 a0_1] 28 (0, 0)) (vk_ BK1001)) : gb1002 ≠ gb1001)); clear HO0_0; clear BK1001; clear HK; clear HB; have HO0_0 := n0_; have BK1001 := n1_; have HK := n2_; have HB := n3_; have BK1002 := n4_; have GW1002 := n5_; have GE1002 := n6_; have NB1001_1002 := n7_; have NB1002_1001 := n8_; clear n0_ n1_ n2_ n3_ n4_ n5_ n6_ n7_ n8_; clear hb hbox hg; have hnb16 := NB1001_1002.out; have hnc16 := NB1002_1001.out; have hcz17_0 := bc2_0 BK1001; have hcz17_1 := bc2_1 BK1001; have hfz17_0 := bf_ BK1001 0; have hfz17_1 := bf_ BK1001 1) | ((with_reducible refine gate_builtin (b := .append) (xs := #[.tmp 10, .tmp 11]) rfl ?_); at_builtin; refine Kd.R_append (Kd.int .u8) (w0 := w0) w0.heap.size rfl (.tmp 10) (.tmp 11) 22 5 (.int .u8 0) 1 rfl Try.underlying22 info5 rfl (by decide) (by omega) (.slice Ao13 l0_0.length co13) l0_0 0 [.int .u8 0] (fun k_ => (P0_0_ k_ ∨ w.heap.size ≤ k_)) (fun _ => False) rfl rfl ?aP (fun _ hk => hk.elim) ?aF ?aO ?aB ?aS ?aL ?_; (case aP => exact rfl); (case aB => exact bg_); (case aF => exact (fun k_ hk => (.inr (Nat.le_trans (by first | exact HK.out.1 | exact (show Kept w _ (fun k_ => P0_0_ k_) from by repeat (first | (with_reducible first | exact HK.out | apply Kept.alloc | apply Kept.drewN | apply Kept.drew | refine Kept.setCell ?_ (.inr GW1001.out) _ | refine Kept.setCell ?_ (.inr GW1002.out) _) | exact HK.out)).1) hk)))); (case aO => exact (ro_ HO0_0)); (case aS => exact (below_size bg_)); (case aL => have := LMc4.out; omega); intro v1004 w18 ho hb hg hat; rw [← Ny1003.out] at ho; have n0_ := am_ (blk_grown (g := gb1001) (o := .cells #[.slice Ao13 l0_0.length co13, .int .i64 a0_1] 28 (0, 0)) (vk_ BK1001) hg (Kd.R_ne HO0_0.out BK1001.out (by decide))); have n1_ := am_ (blk_grown (g := gb1002) (o := .cells #[.slice none 0 0, .int .i64 0] 28 (0, 0)) (vk_ BK1002) hg (Kd.R_ne HO0_0.out BK1002.out (by decide))); have n2_ := am_ (hb); have n3_ := am_ (Kept.of_grown (S := (fun k_ => P0_0_ k_)) hg (by repeat (first | (with_reducible first | exact HK.out | apply Kept.alloc | apply Kept.drewN | apply Kept.drew | refine Kept.setCell ?_ (.inr GW1001.out) _ | refine Kept.setCell ?_ (.inr GW1002.out) _) | exact HK.out)) (fun k_ e_ => (HO0_0.out.1 k_ e_))); have n4_ := am_ (ho); clear BK1001; clear BK1002; clear HB; clear HK; clear HO0_0; have BK1001 := n0_; have BK1002 := n1_; have HB := n2_; have HK := n3_; have HO1005 := n4_; clear n0_ n1_ n2_ n3_ n4_; clear ho hb hg hat; obtain ⟨Ao19, co19, eo19⟩ := Kd.R_slice HO1005.out; subst eo19; have hcz20_0 := bc2_0 BK1001; have hcz20_1 := bc2_1 BK1001; have hfz20_0 := bf_ BK1001 0; have hfz20_1 := bf_ BK1001 1))
       have n0_ : Aside0 (Kd.R (Kd.int .u8) 5 (w18.setCell ⟨gb1001, 0, none⟩ (.slice Ao19 y1003.length co19)) w0.heap.size (fun k_ => (P0_0_ k_ ∨ w.heap.size ≤ k_)) (.slice Ao19 y1003.length co19) y1003) := ⟨by (with_reducible repeat (first | apply Kd.R_alloc | apply Kd.R_drewN | apply Kd.R_drew)); exact Kd.R_mono (Kd.R_far (p := ⟨gb1001, 0, none⟩) (Kd.R_types HO1005.out BK1001.out (by decide)) (fun _ hk => hk.2) (.slice Ao19 y1003.length co19)) (fun _ hk => hk.1)⟩
       have n1_ : Aside0 ((w18.setCell ⟨gb1001, 0, none⟩ (.slice Ao19 y1003.length co19)).heap[gb1001]? = some (.cells #[.slice Ao19 y1003.length co19, .int .i64 a0_1] 28 (0, 0))) := ⟨by (with_reducible repeat (first | refine blk_drewN ?_ _ | refine blk_drew ?_ | refine blk_alloc ?_ _)); refine blk_put (cs := #[.slice Ao13 l0_0.length co13, .int .i64 a0_1]) ?_ 0 _ rfl; (with_reducible repeat (first | refine blk_drewN ?_ _ | refine blk_drew ?_ | refine blk_alloc ?_ _)); exact BK1001.out⟩
       have n2_ : Aside0 ((w18.setCell ⟨gb1001, 0, none⟩ (.slice Ao19 y1003.length co19)).heap[gb1002]? = some (.cells #[.slice none 0 0, .int .i64 0] 28 (0, 0))) := ⟨by (with_reducible repeat (first | refine blk_drewN ?_ _ | refine blk_drew ?_ | refine blk_alloc ?_ _)); refine blk_far ?_ NB1002_1001.out _; (with_reducible repeat (first | refine blk_drewN ?_ _ | refine blk_drew ?_ | refine blk_alloc ?_ _)); exact BK1002.out⟩
       have n3_ : Aside0 (Kept w (w18.setCell ⟨gb1001, 0, none⟩ (.slice Ao19 y1003.length co19)) (fun k_ => P0_0_ k_)) := ⟨by repeat (first | (with_reducible first | exact HK.out | apply Kept.alloc | apply Kept.drewN | apply Kept.drew | refine Kept.setCell ?_ (.inr GW1001.out) _ | refine Kept.setCell ?_ (.inr GW1002.out) _) | exact HK.out)⟩
       have n4_ : Aside0 (Below w0.heap.size w0 (w18.setCell ⟨gb1001, 0, none⟩ (.slice Ao19 y1003.length co19))) := ⟨bg_⟩
       (try clear HO1005)
       (try clear BK1001)
       (try clear BK1002)
       (try clear HK)
       (try clear HB)
       generalize (w18.setCell ⟨gb1001, 0, none⟩ (.slice Ao19 y1003.length co19)) = w21 at n0_ n1_ n2_ n3_ n4_ ⊢
       have HO1005 := n0_
       have BK1001 := n1_
       have BK1002 := n2_
       have HK := n3_
       have HB := n4_
       clear n0_ n1_ n2_ n3_ n4_
       have n0_ := am_ (Kd.R_drew HO1005.out)
       have n1_ := am_ (blk_drew BK1001.out)
       have n2_ := am_ (blk_drew BK1002.out)
       have n3_ := am_ (Kept.drew HK.out)
       have n4_ := am_ (below_drew1 HB.out)
       clear HO1005
       clear BK1001
       clear BK1002
       clear HK
       clear HB
       have HO1005 := n0_
       have BK1001 := n1_
       have BK1002 := n2_
       have HK := n3_
       have HB := n4_
       clear n0_ n1_ n2_ n3_ n4_
       have p1006 : 0 ≤ ((ji6) : Int) := od_
       have q1006 : (ji6) < (y1003.length : Int) := od_
       obtain ⟨ad1006, e1006, hx1006_0⟩ := Kd.at_int (Kd.R_reads' HO1005.out).2.2 (ji6) p1006 q1006
       cases e1006
       replace p1006 := eq_true p1006
       replace q1006 := eq_true q1006
       have p12 : 0 ≤ ((ji6) : Int) := od_
       have q12 : ((ji6) : Int) < ((y1003.length : Int) : Int) := od_
       obtain ⟨go12, co12, eo12, gb12, gl12, cl12, HG12⟩ := Kd.R_form HO1005.out (by omega)
       (first | cases eo12 | (injection eo12 with ea_ en_ ec_; (first | subst ea_ | (injection ea_ with ea_; subst ea_)); subst ec_; clear en_))
       have GB12 := am_ gb12
       have GG12 := am_ HG12
       clear gb12 gl12 HG12
       have HMgo12 := am_ (show (P0_0_ go12 ∨ w.heap.size ≤ go12) from (HO1005.out.1 _ rfl))
       (first | simp only [add_plain] at hx1006_0 | skip)
       obtain ⟨hx12_0, hf12_0⟩ := Kd.R_celln 0 HO1005.out ((ji6) : Int) p12 q12
       replace p12 := eq_true p12
       replace q12 := eq_true q12
       have HP23 := Kd.R_putn HO1005.out ((ji6) : Int) (Go.bits .or .u8 (rd y1003 (ji6)) (ji11))
       rw [← Ny1007.out] at HP23
       have HQ23 := am_ HP23
       clear HP23
       refine start_ (n := 15) (S := fun w' => w'.cell? ⟨gb1001, 0, none⟩ = some (.slice (some ⟨go12, 0, none⟩) y1003.length co19) ∧ w'.cell? ⟨gb1001, 1, none⟩ = some (.int .i64 a0_1) ∧ w'.cell? ⟨go12, ((ji6)).toNat, none⟩ = some (.int .u8 (rd y1003 (ji6)))) (ds := [14]) (bz 15 0) (by kernel_rfl) rfl rfl ⟨(blk_cell BK1001.out 0).trans rfl, (blk_cell BK1001.out 1).trans rfl, hx1006_0⟩ (fun hHeld => ?_); refine with_tabW spec_l1Put.tab4 spec_l1Put.bits4 (fun HT_ HW_ => ?_)
       generalize w21.drew = w22 at HO1005 BK1001 BK1002 HK HB GG12 HQ23 hf12_0 hx1006_0 hx12_0 hHeld ⊢
       refine pz_ 0 16 1 ?_
       refine pz_ 2 18 5 ?_
       refine pz_ 7 23 133 ?_
       refine tz_ 1 17 135 ?_
       refine tz_ 3 19 143 ?_
       refine pz_ 4 20 159 ?_
       refine pz_ 5 21 191 ?_
       refine tz_ 6 22 255 ?_
       refine tz_ 8 24 511 ?_
       refine pz_ 9 25 1023 ?_
       refine pz_ 10 26 2047 ?_
       refine pz_ 11 27 4095 ?_
       refine pz_ 12 28 8191 ?_
       refine pz_ 13 29 16383 ?_
       refine last_ (i := 14) (N := none) (bz 15 32767) rfl rfl (one_of HT_.out (by kernel_rfl)) (by decide) (fun K hK => ?_)
       refine skip_ (w1 := ?_) (by rfl) rfl ?_ ?_
       rotate_left
       ·go_simp
        rfl
       refine hK.out _ _ ?_
       clear hK K
       refine done_ (done_of HT_.out (by kernel_rfl)) ?_
       have n0_ : Aside0 (Kd.R (Kd.int .u8) 5 (w22.setCell ⟨go12, ((ji6) : Int).toNat, none⟩ (.int .u8 (Go.bits .or .u8 (rd y1003 (ji6)) (ji11)))) w0.heap.size (fun k_ => (P0_0_ k_ ∨ w.heap.size ≤ k_)) (.slice (some ⟨go12, 0, none⟩) y1003.length co19) y1007) := ⟨ro_ HQ23⟩
       have n1_ : Aside0 ((w22.setCell ⟨go12, ((ji6) : Int).toNat, none⟩ (.int .u8 (Go.bits .or .u8 (rd y1003 (ji6)) (ji11)))).heap[gb1001]? = some (.cells #[.slice (some ⟨go12, 0, none⟩) y1003.length co19, .int .i64 a0_1] 28 (0, 0))) := ⟨by (with_reducible repeat (first | refine blk_drewN ?_ _ | refine blk_drew ?_ | refine blk_alloc ?_ _)); refine blk_far ?_ (by have h_ := Kd.R_ne HO1005.out BK1001.out (by decide); intro e_; exact h_ (by rw [e_]; rfl)) _; (with_reducible repeat (first | refine blk_drewN ?_ _ | refine blk_drew ?_ | refine blk_alloc ?_ _)); exact BK1001.out⟩
       have n2_ : Aside0 ((w22.setCell ⟨go12, ((ji6) : Int).toNat, none⟩ (.int .u8 (Go.bits .or .u8 (rd y1003 (ji6)) (ji11)))).heap[gb1002]? = some (.cells #[.slice none 0 0, .int .i64 0] 28 (0, 0))) := ⟨by (with_reducible repeat (first | refine blk_drewN ?_ _ | refine blk_drew ?_ | refine blk_alloc ?_ _)); refine blk_far ?_ (by have h_ := Kd.R_ne HO1005.out BK1002.out (by decide); intro e_; exact h_ (by rw [e_]; rfl)) _; (with_reducible repeat (first | refine blk_drewN ?_ _ | refine blk_drew ?_ | refine blk_alloc ?_ _)); exact BK1002.out⟩
       have n3_ : Aside0 (Kept w (w22.setCell ⟨go12, ((ji6) : Int).toNat, none⟩ (.int .u8 (Go.bits .or .u8 (rd y1003 (ji6)) (ji11)))) (fun k_ => P0_0_ k_)) := ⟨by repeat (first | (with_reducible first | exact HK.out | apply Kept.alloc | apply Kept.drewN | apply Kept.drew | refine Kept.setCell ?_ HMgo12.out _ | refine Kept.setCell ?_ (.inr GW1001.out) _ | refine Kept.setCell ?_ (.inr GW1002.out) _) | exact HK.out)⟩
       have n4_ : Aside0 (Below w0.heap.size w0 (w22.setCell ⟨go12, ((ji6) : Int).toNat, none⟩ (.int .u8 (Go.bits .or .u8 (rd y1003 (ji6)) (ji11))))) := ⟨bg_⟩
       (try clear HO1005)
       (try clear BK1001)
       (try clear BK1002)
       (try clear HK)
       (try clear HB)
       generalize (w22.setCell ⟨go12, ((ji6) : Int).toNat, none⟩ (.int .u8 (Go.bits .or .u8 (rd y1003 (ji6)) (ji11)))) = w24 at n0_ n1_ n2_ n3_ n4_ ⊢
       have HO1005 := n0_
       have BK1001 := n1_
       have BK1002 := n2_
       have HK := n3_
       have HB := n4_
       clear n0_ n1_ n2_ n3_ n4_
       have hcz25_0 := bc2_0 BK1001
       have hcz25_1 := bc2_1 BK1001
       have hfz25_0 := bf_ BK1001 0
       have hfz25_1 := bf_ BK1001 1
       have hcz26_0 := bc2_0 BK1002
       have hcz26_1 := bc2_1 BK1002
       have hfz26_0 := bf_ BK1002 0
       have hfz26_1 := bf_ BK1002 1
       try go_wp2
       refine bodyPost_ret (results_cell_row rfl _ _ gb1002 28 #[.slice (some ⟨go12, 0, none⟩) y1003.length co19, .int .i64 (wrap64 (a0_1 + 1))] (0, 0) _ rfl (by (with_reducible repeat (first | refine blk_drewN ?_ _ | refine blk_drew ?_ | refine blk_alloc ?_ _)); refine blk_put (cs := #[.slice (some ⟨go12, 0, none⟩) y1003.length co19, .int .i64 0]) ?_ 1 _ rfl; (with_reducible repeat (first | refine blk_drewN ?_ _ | refine blk_drew ?_ | refine blk_alloc ?_ _)); refine blk_put (cs := #[.slice none 0 0, .int .i64 0]) ?_ 0 _ rfl; (with_reducible repeat (first | refine blk_drewN ?_ _ | refine blk_drew ?_ | refine blk_alloc ?_ _)); refine blk_far ?_ NB1002_1001.out _; (with_reducible repeat (first | refine blk_drewN ?_ _ | refine blk_drew ?_ | refine blk_alloc ?_ _)); exact BK1002.out) Try.underlying28 rfl (by kernel_rfl)) rfl ?_
       exact ⟨_, by first | rfl | (simp [errW_none, errW_some] <;> rfl) | (simp only [← hji6, ← hji9, ← hji11]; first | rfl | (simp [errW_none, errW_some] <;> rfl)) | (simp [*, errW_none, errW_some] <;> rfl) | (simp [*, Go.Proofs.Ytjapdjkckhcelaa.Gt.nil_bne]; done), by (with_reducible repeat (first | apply Kd.R_alloc | apply Kd.R_drewN | apply Kd.R_drew)); exact Kd.R_mono (Kd.R_far (p := ⟨gb1002, 1, none⟩) (Kd.R_far (p := ⟨gb1002, 0, none⟩) (Kd.R_far (p := ⟨gb1001, 1, none⟩) (Kd.R_types (Kd.R_types HO1005.out BK1001.out (by decide)) BK1002.out (by decide)) (fun _ hk => hk.1.2) (.int .i64 (wrap64 (a0_1 + 1)))) (fun _ hk => hk.2) (.slice (some ⟨go12, 0, none⟩) y1003.length co19)) (fun _ hk => hk.2) (.int .i64 (wrap64 (a0_1 + 1)))) (fun _ hk => hk.1.1), bg_, by repeat (first | (with_reducible first | exact HK.out | apply Kept.alloc | apply Kept.drewN | apply Kept.drew | refine Kept.setCell ?_ (.inr GW1001.out) _ | refine Kept.setCell ?_ (.inr GW1002.out) _) | exact HK.out)⟩
      ·rw [if_neg c10] at H
       exact absurd H (by simp)
     ·rw [if_neg c8] at H
      exact absurd H (by simp)
    ·rw [if_neg c7] at H
     exact absurd H (by simp)
   ·rw [if_neg c5] at H
    have c5b0 : (a1 == 1) = false := beq_eq_false_iff_ne.mpr c5
    have c5b1 : (a1 != 1) = true := bne_iff_ne.mpr c5
    simp only [Option.some.injEq, Prod.mk.injEq] at H
    obtain ⟨rfl, rfl⟩ := H
    obtain ⟨Ao27, co27, eo27⟩ := Kd.R_slice HO0_0.out
    subst eo27
    go_enter Try.func116, Try.ntmps116
    go_wp2_with (first | ((with_reducible refine gate_dst (N := 2) rfl ?_); refine box_event ?hg (N := 2) ?hd (cs := #[.slice Ao27 l0_0.length co27, .int .i64 a0_1]) (t := 28) ?hr ?_; (case hd => rfl); (case hg => rfl); (case hr => first | (go_simp; done) | (go_simp; rfl)); intro gb1001 hg w28 hbox hb; have n0_ := am_ (Kd.R_below (ro_ HO0_0) hb); have n1_ := am_ (Kept.below (S := (fun k_ => P0_0_ k_)) (by repeat (first | (with_reducible first | exact HK.out | apply Kept.alloc | apply Kept.drewN | apply Kept.drew) | exact HK.out)) hb); have n2_ := am_ (below_step bl_ hb); have n3_ := am_ (hbox); have n4_ := am_ ((by rw [hg]; exact (by first | exact HK.out.1 | exact (show Kept w _ (fun k_ => P0_0_ k_) from by repeat (first | (with_reducible first | exact HK.out | apply Kept.alloc | apply Kept.drewN | apply Kept.drew) | exact HK.out)).1) : w.heap.size ≤ gb1001)); have n5_ := am_ ((by rw [hg]; exact (below_size bl_) : w0.heap.size ≤ gb1001)); clear HO0_0; clear HK; clear HB; have HO0_0 := n0_; have HK := n1_; have HB := n2_; have BK1001 := n3_; have GW1001 := n4_; have GE1001 := n5_; clear n0_ n1_ n2_ n3_ n4_ n5_; clear hb hbox hg) | ((with_reducible refine gate_dst (N := 4) rfl ?_); refine box_event ?hg (N := 4) ?hd (cs := #[.slice none 0 0, .int .i64 0]) (t := 28) ?hr ?_; (case hd => rfl); (case hg => rfl); (case hr => first | (go_simp; done) | (go_simp; rfl)); intro gb1002 hg w29 hbox hb; have n0_ := am_ (Kd.R_below (ro_ HO0_0) hb); have n1_ := am_ (blk_below (g := gb1001) (vk_ BK1001) hb); have n2_ := am_ (Kept.below (S := (fun k_ => P0_0_ k_)) (by repeat (first | (with_reducible first | exact HK.out | apply Kept.alloc | apply Kept.drewN | apply Kept.drew | refine Kept.setCell ?_ (.inr GW1001.out) _) | exact HK.out)) hb); have n3_ := am_ (below_step bg_ hb); have n4_ := am_ (hbox); have n5_ := am_ ((by rw [hg]; exact (by first | exact HK.out.1 | exact (show Kept w _ (fun k_ => P0_0_ k_) from by repeat (first | (with_reducible first | exact HK.out | apply Kept.alloc | apply Kept.drewN | apply Kept.drew | refine Kept.setCell ?_ (.inr GW1001.out) _) | exact HK.out)).1) : w.heap.size ≤ gb1002)); have n6_ := am_ ((by rw [hg]; exact (below_size bg_) : w0.heap.size ≤ gb1002)); have n7_ := am_ ((by rw [hg]; exact Nat.ne_of_lt (blk_lt (g := gb1001) (o := .cells #[.slice Ao27 l0_0.length co27, .int .i64 a0_1] 28 (0, 0)) (vk_ BK1001)) : gb1001 ≠ gb1002)); have n8_ := am_ ((by rw [hg]; exact Nat.ne_of_gt (blk_lt (g := gb1001) (o := .cells #[.slice Ao27 l0_0.length co27, .int .i64 a0_1] 28 (0, 0)) (vk_ BK1001)) : gb1002 ≠ gb1001)); clear HO0_0; clear BK1001; clear HK; clear HB; have HO0_0 := n0_; have BK1001 := n1_; have HK := n2_; have HB := n3_; have BK1002 := n4_; have GW1002 := n5_; have GE1002 := n6_; have NB1001_1002 := n7_; have NB1002_1001 := n8_; clear n0_ n1_ n2_ n3_ n4_ n5_ n6_ n7_ n8_; clear hb hbox hg; have hnb30 := NB1001_1002.out; have hnc30 := NB1002_1001.out; have hcz31_0 := bc2_0 BK1001; have hcz31_1 := bc2_1 BK1001; have hfz31_0 := bf_ BK1001 0; have hfz31_1 := bf_ BK1001 1) | ((with_reducible refine gate_builtin (b := .append) (xs := #[.tmp 10, .tmp 11]) rfl ?_); at_builtin; refine Kd.R_append (Kd.int .u8) (w0 := w0) w0.heap.size rfl (.tmp 10) (.tmp 11) 22 5 (.int .u8 0) 1 rfl Try.underlying22 info5 rfl (by decide) (by omega) (.slice Ao27 l0_0.length co27) l0_0 0 [.int .u8 0] (fun k_ => (P0_0_ k_ ∨ w.heap.size ≤ k_)) (fun _ => False) rfl rfl ?aP (fun _ hk => hk.elim) ?aF ?aO ?aB ?aS ?aL ?_; (case aP => exact rfl); (case aB => exact bg_); (case aF => exact (fun k_ hk => (.inr (Nat.le_trans (by first | exact HK.out.1 | exact (show Kept w _ (fun k_ => P0_0_ k_) from by repeat (first | (with_reducible first | exact HK.out | apply Kept.alloc | apply Kept.drewN | apply Kept.drew | refine Kept.setCell ?_ (.inr GW1001.out) _ | refine Kept.setCell ?_ (.inr GW1002.out) _) | exact HK.out)).1) hk)))); (case aO => exact (ro_ HO0_0)); (case aS => exact (below_size bg_)); (case aL => have := LMc4.out; omega); intro v1004 w32 ho hb hg hat; rw [← Ny1003.out] at ho; have n0_ := am_ (blk_grown (g := gb1001) (o := .cells #[.slice Ao27 l0_0.length co27, .int .i64 a0_1] 28 (0, 0)) (vk_ BK1001) hg (Kd.R_ne HO0_0.out BK1001.out (by decide))); have n1_ := am_ (blk_grown (g := gb1002) (o := .cells #[.slice none 0 0, .int .i64 0] 28 (0, 0)) (vk_ BK1002) hg (Kd.R_ne HO0_0.out BK1002.out (by decide))); have n2_ := am_ (hb); have n3_ := am_ (Kept.of_grown (S := (fun k_ => P0_0_ k_)) hg (by repeat (first | (with_reducible first | exact HK.out | apply Kept.alloc | apply Kept.drewN | apply Kept.drew | refine Kept.setCell ?_ (.inr GW1001.out) _ | refine Kept.setCell ?_ (.inr GW1002.out) _) | exact HK.out)) (fun k_ e_ => (HO0_0.out.1 k_ e_))); have n4_ := am_ (ho); clear BK1001; clear BK1002; clear HB; clear HK; clear HO0_0; have BK1001 := n0_; have BK1002 := n1_; have HB := n2_; have HK := n3_; have HO1005 := n4_; clear n0_ n1_ n2_ n3_ n4_; clear ho hb hg hat; obtain ⟨Ao33, co33, eo33⟩ := Kd.R_slice HO1005.out; subst eo33; have hcz34_0 := bc2_0 BK1001; have hcz34_1 := bc2_1 BK1001; have hfz34_0 := bf_ BK1001 0; have hfz34_1 := bf_ BK1001 1; have hcz35_0 := bc2_0 BK1002; have hcz35_1 := bc2_1 BK1002; have hfz35_0 := bf_ BK1002 0; have hfz35_1 := bf_ BK1002 1))
    refine bodyPost_ret (results_cell_row rfl _ _ gb1002 28 #[.slice Ao33 y1003.length co33, .int .i64 (wrap64 (a0_1 + 1))] (0, 0) _ rfl (by (with_reducible repeat (first | refine blk_drewN ?_ _ | refine blk_drew ?_ | refine blk_alloc ?_ _)); refine blk_put (cs := #[.slice Ao33 y1003.length co33, .int .i64 0]) ?_ 1 _ rfl; (with_reducible repeat (first | refine blk_drewN ?_ _ | refine blk_drew ?_ | refine blk_alloc ?_ _)); refine blk_put (cs := #[.slice none 0 0, .int .i64 0]) ?_ 0 _ rfl; (with_reducible repeat (first | refine blk_drewN ?_ _ | refine blk_drew ?_ | refine blk_alloc ?_ _)); refine blk_far ?_ NB1002_1001.out _; (with_reducible repeat (first | refine blk_drewN ?_ _ | refine blk_drew ?_ | refine blk_alloc ?_ _)); refine blk_far ?_ NB1002_1001.out _; (with_reducible repeat (first | refine blk_drewN ?_ _ | refine blk_drew ?_ | refine blk_alloc ?_ _)); exact BK1002.out) Try.underlying28 rfl (by kernel_rfl)) rfl ?_
    exact ⟨_, rf_, by (with_reducible repeat (first | apply Kd.R_alloc | apply Kd.R_drewN | apply Kd.R_drew)); exact Kd.R_mono (Kd.R_far (p := ⟨gb1002, 1, none⟩) (Kd.R_far (p := ⟨gb1002, 0, none⟩) (Kd.R_far (p := ⟨gb1001, 1, none⟩) (Kd.R_far (p := ⟨gb1001, 0, none⟩) (Kd.R_types (Kd.R_types HO1005.out BK1001.out (by decide)) BK1002.out (by decide)) (fun _ hk => hk.1.2) (.slice Ao33 y1003.length co33)) (fun _ hk => hk.1.2) (.int .i64 (wrap64 (a0_1 + 1)))) (fun _ hk => hk.2) (.slice Ao33 y1003.length co33)) (fun _ hk => hk.2) (.int .i64 (wrap64 (a0_1 + 1)))) (fun _ hk => hk.1.1), bg_, by repeat (first | (with_reducible first | exact HK.out | apply Kept.alloc | apply Kept.drewN | apply Kept.drew | refine Kept.setCell ?_ (.inr GW1001.out) _ | refine Kept.setCell ?_ (.inr GW1002.out) _) | exact HK.out)⟩
  ·rw [if_neg c4] at H
   exact absurd H (by simp)
 ·rw [if_neg c3] at H
  have c3b0 : ((Int.tmod a0_1 8) == 0) = false := beq_eq_false_iff_ne.mpr c3
  have c3b1 : ((Int.tmod a0_1 8) != 0) = true := bne_iff_ne.mpr c3
  by_cases c36 : a1 = 1
  ·rw [if_pos c36] at H
   have c36b0 : (a1 == 1) = true := beq_iff_eq.mpr c36
   have c36b1 : (a1 != 1) = false := bne_eq_false_iff_eq.mpr c36
   clear c36
   obtain ⟨ji37, hji37⟩ : ∃ j_ : Int, (wrap64 (Int.tdiv a0_1 8)) = j_ := ⟨_, rfl⟩
   replace H : (if 0 ≤ (ji37) then (if (ji37) < (l0_0.length : Int) then (if 0 ≤ (IntKind.u64.wrap (Int.tmod a0_1 8)) then (some ((l0_0.set ((ji37) : Int).toNat (Go.bits .or .u8 (rd l0_0 (ji37)) (shr .u8 128 (IntKind.u64.wrap (Int.tmod a0_1 8))))), wrap64 (a0_1 + 1))) else (none)) else (none)) else (none)) = some (r1, r2) := by first | (rw [hji37] at H; exact H) | (simp only [hji37] at H ⊢; exact H)
   have hji37w : (IntKind.i64.wrap (Int.tdiv a0_1 8)) = ji37 := (i64_w _).trans hji37
   by_cases c38 : 0 ≤ (ji37)
   ·rw [if_pos c38] at H
    have c38b0 : decide (0 ≤ (ji37)) = true := decide_eq_true c38
    clear c38
    by_cases c39 : (ji37) < (l0_0.length : Int)
    ·rw [if_pos c39] at H
     have c39b0 : decide ((ji37) < (l0_0.length : Int)) = true := decide_eq_true c39
     clear c39
     obtain ⟨ji40, hji40⟩ : ∃ j_ : Int, (IntKind.u64.wrap (Int.tmod a0_1 8)) = j_ := ⟨_, rfl⟩
     replace H : (if 0 ≤ (ji40) then (some ((l0_0.set ((ji37) : Int).toNat (Go.bits .or .u8 (rd l0_0 (ji37)) (shr .u8 128 (ji40)))), wrap64 (a0_1 + 1))) else (none)) = some (r1, r2) := by first | (rw [hji40] at H; exact H) | (simp only [hji40] at H ⊢; exact H)
     by_cases c41 : 0 ≤ (ji40)
     ·rw [if_pos c41] at H
      have c41b0 := eq_true c41
      have c41b1 : decide (0 ≤ (ji40)) = true := decide_eq_true c41
      clear c41
      obtain ⟨ji42, hji42⟩ : ∃ j_ : Int, (shr .u8 128 (ji40)) = j_ := ⟨_, rfl⟩
      replace H : (some ((l0_0.set ((ji37) : Int).toNat (Go.bits .or .u8 (rd l0_0 (ji37)) (ji42))), wrap64 (a0_1 + 1))) = some (r1, r2) := by first | (rw [hji42] at H; exact H) | (simp only [hji42] at H ⊢; exact H)
      have hji42_ : (128 / 2 ^ min (ji40).toNat 8) = ji42 := hji42
      have hji42z : (ji40) ≤ 8 → (128 / 2 ^ (ji40).toNat) = ji42 := shr_small hji42
      obtain ⟨y1009, hy1009⟩ : ∃ y_ : List Int, y_ = (l0_0.set ((ji37) : Int).toNat (Go.bits .or .u8 (rd l0_0 (ji37)) (ji42))) := ⟨_, rfl⟩
      replace H : (some (y1009, wrap64 (a0_1 + 1))) = some (r1, r2) := by first | (rw [hy1009]; with_reducible exact H) | (have H2_ := (Option.bind_some _ _).symm.trans H; rw [hy1009]; with_reducible exact H2_) | (have H2_ := (Option.bind_some _ _).symm.trans H; with_reducible exact H2_) | with_reducible exact H | (rw [hy1009]; exact H) | exact H
      have Ny1009 := am_ hy1009
      clear hy1009
      simp only [Option.some.injEq, Prod.mk.injEq] at H
      obtain ⟨rfl, rfl⟩ := H
      obtain ⟨Ao44, co44, eo44⟩ := Kd.R_slice HO0_0.out
      subst eo44
      go_enter Try.func116, Try.ntmps116
      try go_wp2_with (first | ((with_reducible refine gate_dst (N := 2) rfl ?_); refine box_event ?hg (N := 2) ?hd (cs := #[.slice Ao44 l0_0.length co44, .int .i64 a0_1]) (t := 28) ?hr ?_; (case hd => rfl); (case hg => rfl); (case hr => first | (go_simp; done) | (go_simp; rfl)); intro gb1001 hg w45 hbox hb; have n0_ := am_ (Kd.R_below (ro_ HO0_0) hb); have n1_ := am_ (Kept.below (S := (fun k_ => P0_0_ k_)) (by repeat (first | (with_reducible first | exact HK.out | apply Kept.alloc | apply Kept.drewN | apply Kept.drew) | exact HK.out)) hb); have n2_ := am_ (below_step bl_ hb); have n3_ := am_ (hbox); have n4_ := am_ ((by rw [hg]; exact (by first | exact HK.out.1 | exact (show Kept w _ (fun k_ => P0_0_ k_) from by repeat (first | (with_reducible first | exact HK.out | apply Kept.alloc | apply Kept.drewN | apply Kept.drew) | exact HK.out)).1) : w.heap.size ≤ gb1001)); have n5_ := am_ ((by rw [hg]; exact (below_size bl_) : w0.heap.size ≤ gb1001)); clear HO0_0; clear HK; clear HB; have HO0_0 := n0_; have HK := n1_; have HB := n2_; have BK1001 := n3_; have GW1001 := n4_; have GE1001 := n5_; clear n0_ n1_ n2_ n3_ n4_ n5_; clear hb hbox hg) | ((with_reducible refine gate_dst (N := 4) rfl ?_); refine box_event ?hg (N := 4) ?hd (cs := #[.slice none 0 0, .int .i64 0]) (t := 28) ?hr ?_; (case hd => rfl); (case hg => rfl); (case hr => first | (go_simp; done) | (go_simp; rfl)); intro gb1002 hg w46 hbox hb; have n0_ := am_ (Kd.R_below (ro_ HO0_0) hb); have n1_ := am_ (blk_below (g := gb1001) (vk_ BK1001) hb); have n2_ := am_ (Kept.below (S := (fun k_ => P0_0_ k_)) (by repeat (first | (with_reducible first | exact HK.out | apply Kept.alloc | apply Kept.drewN | apply Kept.drew | refine Kept.setCell ?_ (.inr GW1001.out) _) | exact HK.out)) hb); have n3_ := am_ (below_step bg_ hb); have n4_ := am_ (hbox); have n5_ := am_ ((by rw [hg]; exact (by first | exact HK.out.1 | exact (show Kept w _ (fun k_ => P0_0_ k_) from by repeat (first | (with_reducible first | exact HK.out | apply Kept.alloc | apply Kept.drewN | apply Kept.drew | refine Kept.setCell ?_ (.inr GW1001.out) _) | exact HK.out)).1) : w.heap.size ≤ gb1002)); have n6_ := am_ ((by rw [hg]; exact (below_size bg_) : w0.heap.size ≤ gb1002)); have n7_ := am_ ((by rw [hg]; exact Nat.ne_of_lt (blk_lt (g := gb1001) (o := .cells #[.slice Ao44 l0_0.length co44, .int .i64 a0_1] 28 (0, 0)) (vk_ BK1001)) : gb1001 ≠ gb1002)); have n8_ := am_ ((by rw [hg]; exact Nat.ne_of_gt (blk_lt (g := gb1001) (o := .cells #[.slice Ao44 l0_0.length co44, .int .i64 a0_1] 28 (0, 0)) (vk_ BK1001)) : gb1002 ≠ gb1001)); clear HO0_0; clear BK1001; clear HK; clear HB; have HO0_0 := n0_; have BK1001 := n1_; have HK := n2_; have HB := n3_; have BK1002 := n4_; have GW1002 := n5_; have GE1002 := n6_; have NB1001_1002 := n7_; have NB1002_1001 := n8_; clear n0_ n1_ n2_ n3_ n4_ n5_ n6_ n7_ n8_; clear hb hbox hg; have hnb47 := NB1001_1002.out; have hnc47 := NB1002_1001.out; have hcz48_0 := bc2_0 BK1001; have hcz48_1 := bc2_1 BK1001; have hfz48_0 := bf_ BK1001 0; have hfz48_1 := bf_ BK1001 1))
      have n0_ := am_ (Kd.R_drew HO0_0.out)
      have n1_ := am_ (blk_drew BK1001.out)
      have n2_ := am_ (blk_drew BK1002.out)
      have n3_ := am_ (Kept.drew HK.out)
      have n4_ := am_ (below_drew1 HB.out)
      clear HO0_0
      clear BK1001
      clear BK1002
      clear HK
      clear HB
      have HO0_0 := n0_
      have BK1001 := n1_
      have BK1002 := n2_
      have HK := n3_
      have HB := n4_
      clear n0_ n1_ n2_ n3_ n4_
      have p1008 : 0 ≤ ((ji37) : Int) := od_
      have q1008 : (ji37) < (l0_0.length : Int) := od_
      obtain ⟨ad1008, e1008, hx1008_0⟩ := Kd.at_int (Kd.R_reads' HO0_0.out).2.2 (ji37) p1008 q1008
      cases e1008
      replace p1008 := eq_true p1008
      replace q1008 := eq_true q1008
      have p43 : 0 ≤ ((ji37) : Int) := od_
      have q43 : ((ji37) : Int) < ((l0_0.length : Int) : Int) := od_
      obtain ⟨go43, co43, eo43, gb43, gl43, cl43, HG43⟩ := Kd.R_form HO0_0.out (by omega)
      (first | cases eo43 | (injection eo43 with ea_ en_ ec_; (first | subst ea_ | (injection ea_ with ea_; subst ea_)); subst ec_; clear en_))
      have GB43 := am_ gb43
      have GG43 := am_ HG43
      clear gb43 gl43 HG43
      have HMgo43 := am_ (show (P0_0_ go43 ∨ w.heap.size ≤ go43) from (HO0_0.out.1 _ rfl))
      (first | simp only [add_plain] at hx1008_0 | skip)
      obtain ⟨hx43_0, hf43_0⟩ := Kd.R_celln 0 HO0_0.out ((ji37) : Int) p43 q43
      replace p43 := eq_true p43
      replace q43 := eq_true q43
      have HP50 := Kd.R_putn HO0_0.out ((ji37) : Int) (Go.bits .or .u8 (rd l0_0 (ji37)) (ji42))
      rw [← Ny1009.out] at HP50
      have HQ50 := am_ HP50
      clear HP50
      refine start_ (n := 15) (S := fun w' => w'.cell? ⟨gb1001, 0, none⟩ = some (.slice (some ⟨go43, 0, none⟩) l0_0.length co44) ∧ w'.cell? ⟨gb1001, 1, none⟩ = some (.int .i64 a0_1) ∧ w'.cell? ⟨go43, ((ji37)).toNat, none⟩ = some (.int .u8 (rd l0_0 (ji37)))) (ds := [14]) (bz 15 0) (by kernel_rfl) rfl rfl ⟨(blk_cell BK1001.out 0).trans rfl, (blk_cell BK1001.out 1).trans rfl, hx1008_0⟩ (fun hHeld => ?_); refine with_tabW spec_l1Put.tab4 spec_l1Put.bits4 (fun HT_ HW_ => ?_)
      generalize w46.drew = w49 at HO0_0 BK1001 BK1002 HK HB GG43 HQ50 hf43_0 hx1008_0 hx43_0 hHeld ⊢
      refine pz_ 0 16 1 ?_
      refine pz_ 2 18 5 ?_
      refine pz_ 7 23 133 ?_
      refine tz_ 1 17 135 ?_
      refine tz_ 3 19 143 ?_
      refine pz_ 4 20 159 ?_
      refine pz_ 5 21 191 ?_
      refine tz_ 6 22 255 ?_
      refine tz_ 8 24 511 ?_
      refine pz_ 9 25 1023 ?_
      refine pz_ 10 26 2047 ?_
      refine pz_ 11 27 4095 ?_
      refine pz_ 12 28 8191 ?_
      refine pz_ 13 29 16383 ?_
      refine last_ (i := 14) (N := none) (bz 15 32767) rfl rfl (one_of HT_.out (by kernel_rfl)) (by decide) (fun K hK => ?_)
      refine skip_ (w1 := ?_) (by rfl) rfl ?_ ?_
      rotate_left
      ·go_simp
       rfl
      refine hK.out _ _ ?_
      clear hK K
      refine done_ (done_of HT_.out (by kernel_rfl)) ?_
      have n0_ : Aside0 (Kd.R (Kd.int .u8) 5 (w49.setCell ⟨go43, ((ji37) : Int).toNat, none⟩ (.int .u8 (Go.bits .or .u8 (rd l0_0 (ji37)) (ji42)))) w0.heap.size (fun k_ => (P0_0_ k_ ∨ w.heap.size ≤ k_)) (.slice (some ⟨go43, 0, none⟩) l0_0.length co44) y1009) := ⟨ro_ HQ50⟩
      have n1_ : Aside0 ((w49.setCell ⟨go43, ((ji37) : Int).toNat, none⟩ (.int .u8 (Go.bits .or .u8 (rd l0_0 (ji37)) (ji42)))).heap[gb1001]? = some (.cells #[.slice (some ⟨go43, 0, none⟩) l0_0.length co44, .int .i64 a0_1] 28 (0, 0))) := ⟨by (with_reducible repeat (first | refine blk_drewN ?_ _ | refine blk_drew ?_ | refine blk_alloc ?_ _)); refine blk_far ?_ (by have h_ := Kd.R_ne HO0_0.out BK1001.out (by decide); intro e_; exact h_ (by rw [e_]; rfl)) _; (with_reducible repeat (first | refine blk_drewN ?_ _ | refine blk_drew ?_ | refine blk_alloc ?_ _)); exact BK1001.out⟩
      have n2_ : Aside0 ((w49.setCell ⟨go43, ((ji37) : Int).toNat, none⟩ (.int .u8 (Go.bits .or .u8 (rd l0_0 (ji37)) (ji42)))).heap[gb1002]? = some (.cells #[.slice none 0 0, .int .i64 0] 28 (0, 0))) := ⟨by (with_reducible repeat (first | refine blk_drewN ?_ _ | refine blk_drew ?_ | refine blk_alloc ?_ _)); refine blk_far ?_ (by have h_ := Kd.R_ne HO0_0.out BK1002.out (by decide); intro e_; exact h_ (by rw [e_]; rfl)) _; (with_reducible repeat (first | refine blk_drewN ?_ _ | refine blk_drew ?_ | refine blk_alloc ?_ _)); exact BK1002.out⟩
      have n3_ : Aside0 (Kept w (w49.setCell ⟨go43, ((ji37) : Int).toNat, none⟩ (.int .u8 (Go.bits .or .u8 (rd l0_0 (ji37)) (ji42)))) (fun k_ => P0_0_ k_)) := ⟨by repeat (first | (with_reducible first | exact HK.out | apply Kept.alloc | apply Kept.drewN | apply Kept.drew | refine Kept.setCell ?_ HMgo43.out _ | refine Kept.setCell ?_ (.inr GW1001.out) _ | refine Kept.setCell ?_ (.inr GW1002.out) _) | exact HK.out)⟩
      have n4_ : Aside0 (Below w0.heap.size w0 (w49.setCell ⟨go43, ((ji37) : Int).toNat, none⟩ (.int .u8 (Go.bits .or .u8 (rd l0_0 (ji37)) (ji42))))) := ⟨bg_⟩
      (try clear HO0_0)
      (try clear BK1001)
      (try clear BK1002)
      (try clear HK)
      (try clear HB)
      generalize (w49.setCell ⟨go43, ((ji37) : Int).toNat, none⟩ (.int .u8 (Go.bits .or .u8 (rd l0_0 (ji37)) (ji42)))) = w51 at n0_ n1_ n2_ n3_ n4_ ⊢
      have HO0_0 := n0_
      have BK1001 := n1_
      have BK1002 := n2_
      have HK := n3_
      have HB := n4_
      clear n0_ n1_ n2_ n3_ n4_
      have hcz52_0 := bc2_0 BK1001
      have hcz52_1 := bc2_1 BK1001
      have hfz52_0 := bf_ BK1001 0
      have hfz52_1 := bf_ BK1001 1
      have hcz53_0 := bc2_0 BK1002
      have hcz53_1 := bc2_1 BK1002
      have hfz53_0 := bf_ BK1002 0
      have hfz53_1 := bf_ BK1002 1
      try go_wp2
      refine bodyPost_ret (results_cell_row rfl _ _ gb1002 28 #[.slice (some ⟨go43, 0, none⟩) l0_0.length co44, .int .i64 (wrap64 (a0_1 + 1))] (0, 0) _ rfl (by (with_reducible repeat (first | refine blk_drewN ?_ _ | refine blk_drew ?_ | refine blk_alloc ?_ _)); refine blk_put (cs := #[.slice (some ⟨go43, 0, none⟩) l0_0.length co44, .int .i64 0]) ?_ 1 _ rfl; (with_reducible repeat (first | refine blk_drewN ?_ _ | refine blk_drew ?_ | refine blk_alloc ?_ _)); refine blk_put (cs := #[.slice none 0 0, .int .i64 0]) ?_ 0 _ rfl; (with_reducible repeat (first | refine blk_drewN ?_ _ | refine blk_drew ?_ | refine blk_alloc ?_ _)); refine blk_far ?_ NB1002_1001.out _; (with_reducible repeat (first | refine blk_drewN ?_ _ | refine blk_drew ?_ | refine blk_alloc ?_ _)); exact BK1002.out) Try.underlying28 rfl (by kernel_rfl)) rfl ?_
      exact ⟨_, by first | rfl | (simp [errW_none, errW_some] <;> rfl) | (simp only [← hji37, ← hji40, ← hji42]; first | rfl | (simp [errW_none, errW_some] <;> rfl)) | (simp [*, errW_none, errW_some] <;> rfl) | (simp [*, Go.Proofs.Ytjapdjkckhcelaa.Gt.nil_bne]; done), by (with_reducible repeat (first | apply Kd.R_alloc | apply Kd.R_drewN | apply Kd.R_drew)); exact Kd.R_mono (Kd.R_far (p := ⟨gb1002, 1, none⟩) (Kd.R_far (p := ⟨gb1002, 0, none⟩) (Kd.R_far (p := ⟨gb1001, 1, none⟩) (Kd.R_types (Kd.R_types HO0_0.out BK1001.out (by decide)) BK1002.out (by decide)) (fun _ hk => hk.1.2) (.int .i64 (wrap64 (a0_1 + 1)))) (fun _ hk => hk.2) (.slice (some ⟨go43, 0, none⟩) l0_0.length co44)) (fun _ hk => hk.2) (.int .i64 (wrap64 (a0_1 + 1)))) (fun _ hk => hk.1.1), bg_, by repeat (first | (with_reducible first | exact HK.out | apply Kept.alloc | apply Kept.drewN | apply Kept.drew | refine Kept.setCell ?_ (.inr GW1001.out) _ | refine Kept.setCell ?_ (.inr GW1002.out) _) | exact HK.out)⟩
     ·rw [if_neg c41] at H
      exact absurd H (by simp)
    ·rw [if_neg c39] at H
     exact absurd H (by simp)
   ·rw [if_neg c38] at H
    exact absurd H (by simp)
  ·rw [if_neg c36] at H
   have c36b0 : (a1 == 1) = false := beq_eq_false_iff_ne.mpr c36
   have c36b1 : (a1 != 1) = true := bne_iff_ne.mpr c36
   simp only [Option.some.injEq, Prod.mk.injEq] at H
   obtain ⟨rfl, rfl⟩ := H
   obtain ⟨Ao54, co54, eo54⟩ := Kd.R_slice HO0_0.out
   subst eo54
   go_enter Try.func116, Try.ntmps116
   go_wp2_with (first | ((with_reducible refine gate_dst (N := 2) rfl ?_); refine box_event ?hg (N := 2) ?hd (cs := #[.slice Ao54 l0_0.length co54, .int .i64 a0_1]) (t := 28) ?hr ?_; (case hd => rfl); (case hg => rfl); (case hr => first | (go_simp; done) | (go_simp; rfl)); intro gb1001 hg w55 hbox hb; have n0_ := am_ (Kd.R_below (ro_ HO0_0) hb); have n1_ := am_ (Kept.below (S := (fun k_ => P0_0_ k_)) (by repeat (first | (with_reducible first | exact HK.out | apply Kept.alloc | apply Kept.drewN | apply Kept.drew) | exact HK.out)) hb); have n2_ := am_ (below_step bl_ hb); have n3_ := am_ (hbox); have n4_ := am_ ((by rw [hg]; exact (by first | exact HK.out.1 | exact (show Kept w _ (fun k_ => P0_0_ k_) from by repeat (first | (with_reducible first | exact HK.out | apply Kept.alloc | apply Kept.drewN | apply Kept.drew) | exact HK.out)).1) : w.heap.size ≤ gb1001)); have n5_ := am_ ((by rw [hg]; exact (below_size bl_) : w0.heap.size ≤ gb1001)); clear HO0_0; clear HK; clear HB; have HO0_0 := n0_; have HK := n1_; have HB := n2_; have BK1001 := n3_; have GW1001 := n4_; have GE1001 := n5_; clear n0_ n1_ n2_ n3_ n4_ n5_; clear hb hbox hg) | ((with_reducible refine gate_dst (N := 4) rfl ?_); refine box_event ?hg (N := 4) ?hd (cs := #[.slice none 0 0, .int .i64 0]) (t := 28) ?hr ?_; (case hd => rfl); (case hg => rfl); (case hr => first | (go_simp; done) | (go_simp; rfl)); intro gb1002 hg w56 hbox hb; have n0_ := am_ (Kd.R_below (ro_ HO0_0) hb); have n1_ := am_ (blk_below (g := gb1001) (vk_ BK1001) hb); have n2_ := am_ (Kept.below (S := (fun k_ => P0_0_ k_)) (by repeat (first | (with_reducible first | exact HK.out | apply Kept.alloc | apply Kept.drewN | apply Kept.drew | refine Kept.setCell ?_ (.inr GW1001.out) _) | exact HK.out)) hb); have n3_ := am_ (below_step bg_ hb); have n4_ := am_ (hbox); have n5_ := am_ ((by rw [hg]; exact (by first | exact HK.out.1 | exact (show Kept w _ (fun k_ => P0_0_ k_) from by repeat (first | (with_reducible first | exact HK.out | apply Kept.alloc | apply Kept.drewN | apply Kept.drew | refine Kept.setCell ?_ (.inr GW1001.out) _) | exact HK.out)).1) : w.heap.size ≤ gb1002)); have n6_ := am_ ((by rw [hg]; exact (below_size bg_) : w0.heap.size ≤ gb1002)); have n7_ := am_ ((by rw [hg]; exact Nat.ne_of_lt (blk_lt (g := gb1001) (o := .cells #[.slice Ao54 l0_0.length co54, .int .i64 a0_1] 28 (0, 0)) (vk_ BK1001)) : gb1001 ≠ gb1002)); have n8_ := am_ ((by rw [hg]; exact Nat.ne_of_gt (blk_lt (g := gb1001) (o := .cells #[.slice Ao54 l0_0.length co54, .int .i64 a0_1] 28 (0, 0)) (vk_ BK1001)) : gb1002 ≠ gb1001)); clear HO0_0; clear BK1001; clear HK; clear HB; have HO0_0 := n0_; have BK1001 := n1_; have HK := n2_; have HB := n3_; have BK1002 := n4_; have GW1002 := n5_; have GE1002 := n6_; have NB1001_1002 := n7_; have NB1002_1001 := n8_; clear n0_ n1_ n2_ n3_ n4_ n5_ n6_ n7_ n8_; clear hb hbox hg; have hnb57 := NB1001_1002.out; have hnc57 := NB1002_1001.out; have hcz58_0 := bc2_0 BK1001; have hcz58_1 := bc2_1 BK1001; have hfz58_0 := bf_ BK1001 0; have hfz58_1 := bf_ BK1001 1; have hcz59_0 := bc2_0 BK1002; have hcz59_1 := bc2_1 BK1002; have hfz59_0 := bf_ BK1002 0; have hfz59_1 := bf_ BK1002 1))
   refine bodyPost_ret (results_cell_row rfl _ _ gb1002 28 #[.slice Ao54 l0_0.length co54, .int .i64 (wrap64 (a0_1 + 1))] (0, 0) _ rfl (by (with_reducible repeat (first | refine blk_drewN ?_ _ | refine blk_drew ?_ | refine blk_alloc ?_ _)); refine blk_put (cs := #[.slice Ao54 l0_0.length co54, .int .i64 0]) ?_ 1 _ rfl; (with_reducible repeat (first | refine blk_drewN ?_ _ | refine blk_drew ?_ | refine blk_alloc ?_ _)); refine blk_put (cs := #[.slice none 0 0, .int .i64 0]) ?_ 0 _ rfl; (with_reducible repeat (first | refine blk_drewN ?_ _ | refine blk_drew ?_ | refine blk_alloc ?_ _)); refine blk_far ?_ NB1002_1001.out _; (with_reducible repeat (first | refine blk_drewN ?_ _ | refine blk_drew ?_ | refine blk_alloc ?_ _)); exact BK1002.out) Try.underlying28 rfl (by kernel_rfl)) rfl ?_
   exact ⟨_, rf_, by (with_reducible repeat (first | apply Kd.R_alloc | apply Kd.R_drewN | apply Kd.R_drew)); exact Kd.R_mono (Kd.R_far (p := ⟨gb1002, 1, none⟩) (Kd.R_far (p := ⟨gb1002, 0, none⟩) (Kd.R_far (p := ⟨gb1001, 1, none⟩) (Kd.R_types (Kd.R_types HO0_0.out BK1001.out (by decide)) BK1002.out (by decide)) (fun _ hk => hk.1.2) (.int .i64 (wrap64 (a0_1 + 1)))) (fun _ hk => hk.2) (.slice Ao54 l0_0.length co54)) (fun _ hk => hk.2) (.int .i64 (wrap64 (a0_1 + 1)))) (fun _ hk => hk.1.1), bg_, by repeat (first | (with_reducible first | exact HK.out | apply Kept.alloc | apply Kept.drewN | apply Kept.drew | refine Kept.setCell ?_ (.inr GW1001.out) _ | refine Kept.setCell ?_ (.inr GW1002.out) _) | exact HK.out)⟩

/-! ### spec_l1Add: function 69 -/
def spec_l1Add.l0 : Nat → Int → Int → List Int → Int → Option (List Int × Int)
 | 0, _, _, _, _ => none
 | k + 1, x1, x7, x1002000, x1002001 => if x7 ≥ 0 then (if 0 ≤ (IntKind.u64.wrap (x7)) then ((spec_l1Put.f x1002000 x1002001 (wrap64 (Go.bits .and .u64 (shr .u64 (IntKind.u64.wrap (x1)) (IntKind.u64.wrap (x7))) 1))).bind fun bt1003 => (spec_l1Add.l0 k x1 (wrap64 (x7 - 1)) bt1003.1 bt1003.2)) else (none)) else (some (x1002000, x1002001))
def spec_l1Add.f (k : Nat) (l0_0 : List Int) (a0_1 : Int) (a1 : Int) (a2 : Int) : Option (List Int × Int) := spec_l1Add.l0 k a1 (wrap64 (a2 - 1)) l0_0 a0_1
theorem spec_l1Add.mono_l : ∀ k, (∀ y0 y1 y2 y3, LeO (spec_l1Add.l0 k y0 y1 y2 y3) (spec_l1Add.l0 (k + 1) y0 y1 y2 y3))
 | 0 => fun _ _ _ _ r h => by simp [spec_l1Add.l0] at h
 | k + 1 => by
  have ih0 := spec_l1Add.mono_l k
  ·intro y0 y1 y2 y3
   unfold spec_l1Add.l0
   repeat' first
   | with_reducible first | exact ih0 _ _ _ _ | exact LeO.refl _ | exact LeO.none _ | refine LeO.ite ?_ ?_ | refine LeO.bind ?_ (fun _ => ?_)
   | exact ih0 _ _ _ _
   | exact LeO.none _
   | refine LeO.ite ?_ ?_
   | refine LeO.bind ?_ (fun _ => ?_)
theorem spec_l1Add.mono : ∀ a0 a1 a2 a3 k, LeO (spec_l1Add.f k a0 a1 a2 a3) (spec_l1Add.f (k + 1) a0 a1 a2 a3) := by
 intro a0 a1 a2 a3 k
 have ih0 := spec_l1Add.mono_l k
 unfold spec_l1Add.f
 repeat' first
   | with_reducible first | exact ih0 _ _ _ _ | exact LeO.refl _ | exact LeO.none _ | refine LeO.ite ?_ ?_ | refine LeO.bind ?_ (fun _ => ?_)
   | exact ih0 _ _ _ _
   | exact LeO.none _
   | refine LeO.ite ?_ ?_
   | refine LeO.bind ?_ (fun _ => ?_)
set_option maxHeartbeats 8000000 in
set_option maxRecDepth 100000 in
theorem spec_l1Add.calls (k : Nat) (P0_0_ : Nat → Prop) (u9000_ : Value) (l0_0 : List Int) (a0_1 : Int) (a1 : Int) (a2 : Int) (r1 : List Int) (r2 : Int) (w0 w : World) (hB : Below w0.heap.size w0 w) (ho0_0 : Kd.R (Kd.int .u8) 5 w w0.heap.size P0_0_ u9000_ l0_0) (h : spec_l1Add.f k l0_0 a0_1 a1 a2 = some (r1, r2)) :
  Calls Try.prog 69 #[.agg #[u9000_, .int .i64 a0_1], .int .i64 a1, .int .i64 a2] w fun e w' => ∃ v0_ : Value, e = .returned (.agg #[v0_, .int .i64 r2]) ∧ Kd.R (Kd.int .u8) 5 w' w0.heap.size (fun k_ => (P0_0_ k_ ∨ w.heap.size ≤ k_)) v0_ r1 ∧ Below w0.heap.size w0 w' ∧ Kept w w' (fun k_ => P0_0_ k_) := by
 have hu28 := Try.underlying28
 have HO0_0 := am_ (show Kd.R (Kd.int .u8) 5 w w0.heap.size (fun k_ => (P0_0_ k_ ∨ w.heap.size ≤ k_)) u9000_ l0_0 from Kd.R_mono ho0_0 (fun k_ hk => (.inl hk)))
 have HK := am_ (Kept.refl w (fun k_ => P0_0_ k_))
 have HW0 := am_ hB.size
 have HB := am_ hB
 clear hB
 have H : (spec_l1Add.l0 k a1 (wrap64 (a2 - 1)) l0_0 a0_1) = some (r1, r2) := h
 clear h
 have H' := am_ H
 clear H
 obtain ⟨Ao4, co4, eo4⟩ := Kd.R_slice HO0_0.out
 subst eo4
 go_enter Try.func69, Try.ntmps69
 go_wp2_with (first | ((with_reducible refine gate_dst (N := 3) rfl ?_); refine box_event ?hg (N := 3) ?hd (cs := #[.slice Ao4 l0_0.length co4, .int .i64 a0_1]) (t := 28) ?hr ?_; (case hd => rfl); (case hg => rfl); (case hr => first | (go_simp; done) | (go_simp; rfl)); intro gb1001 hg w5 hbox hb; have n0_ := am_ (Kd.R_below (ro_ HO0_0) hb); have n1_ := am_ (Kept.below (S := (fun k_ => P0_0_ k_)) (by repeat (first | (with_reducible first | exact HK.out | apply Kept.alloc | apply Kept.drewN | apply Kept.drew) | exact HK.out)) hb); have n2_ := am_ (below_step bl_ hb); have n3_ := am_ (hbox); have n4_ := am_ ((by rw [hg]; exact (by first | exact HK.out.1 | exact (show Kept w _ (fun k_ => P0_0_ k_) from by repeat (first | (with_reducible first | exact HK.out | apply Kept.alloc | apply Kept.drewN | apply Kept.drew) | exact HK.out)).1) : w.heap.size ≤ gb1001)); have n5_ := am_ ((by rw [hg]; exact (below_size bl_) : w0.heap.size ≤ gb1001)); clear HO0_0; clear HK; clear HB; have HO0_0 := n0_; have HK := n1_; have HB := n2_; have BK1001 := n3_; have GW1001 := n4_; have GE1001 := n5_; clear n0_ n1_ n2_ n3_ n4_ n5_; clear hb hbox hg) | ((with_reducible refine gate_dst (N := 6) rfl ?_); refine box_event ?hg (N := 6) ?hd (cs := #[.slice none 0 0, .int .i64 0]) (t := 28) ?hr ?_; (case hd => rfl); (case hg => rfl); (case hr => first | (go_simp; done) | (go_simp; rfl)); intro gb1002 hg w6 hbox hb; have n0_ := am_ (Kd.R_below (ro_ HO0_0) hb); have n1_ := am_ (blk_below (g := gb1001) (vk_ BK1001) hb); have n2_ := am_ (Kept.below (S := (fun k_ => P0_0_ k_)) (by repeat (first | (with_reducible first | exact HK.out | apply Kept.alloc | apply Kept.drewN | apply Kept.drew | refine Kept.setCell ?_ (.inr GW1001.out) _) | exact HK.out)) hb); have n3_ := am_ (below_step bg_ hb); have n4_ := am_ (hbox); have n5_ := am_ ((by rw [hg]; exact (by first | exact HK.out.1 | exact (show Kept w _ (fun k_ => P0_0_ k_) from by repeat (first | (with_reducible first | exact HK.out | apply Kept.alloc | apply Kept.drewN | apply Kept.drew | refine Kept.setCell ?_ (.inr GW1001.out) _) | exact HK.out)).1) : w.heap.size ≤ gb1002)); have n6_ := am_ ((by rw [hg]; exact (below_size bg_) : w0.heap.size ≤ gb1002)); have n7_ := am_ ((by rw [hg]; exact Nat.ne_of_lt (blk_lt (g := gb1001) (o := .cells #[.slice Ao4 l0_0.length co4, .int .i64 a0_1] 28 (0, 0)) (vk_ BK1001)) : gb1001 ≠ gb1002)); have n8_ := am_ ((by rw [hg]; exact Nat.ne_of_gt (blk_lt (g := gb1001) (o := .cells #[.slice Ao4 l0_0.length co4, .int .i64 a0_1] 28 (0, 0)) (vk_ BK1001)) : gb1002 ≠ gb1001)); clear HO0_0; clear BK1001; clear HK; clear HB; have HO0_0 := n0_; have BK1001 := n1_; have HK := n2_; have HB := n3_; have BK1002 := n4_; have GW1002 := n5_; have GE1002 := n6_; have NB1001_1002 := n7_; have NB1002_1001 := n8_; clear n0_ n1_ n2_ n3_ n4_ n5_ n6_ n7_ n8_; clear hb hbox hg))
 go_loopg [7] k (fun kq v7 w' => ∃ (x7_1 : Int) (x1002000_1 : List Int) (x1002001_1 : Int) (u1002000 : Value), v7 = .int .i64 x7_1 ∧ Aside0 (spec_l1Add.l0 kq a1 x7_1 x1002000_1 x1002001_1 = some (r1, r2)) ∧ Aside0 (kq ≤ k) ∧ Aside0 (Kd.R (Kd.int .u8) 5 w' w0.heap.size (fun k_ => (P0_0_ k_ ∨ w.heap.size ≤ k_)) u1002000 x1002000_1) ∧ Aside0 (w'.heap[gb1001]? = some (.cells #[u1002000, .int .i64 x1002001_1] 28 (0, 0))) ∧ Aside0 (w'.heap[gb1002]? = some (.cells #[(.slice none 0 0), .int .i64 0] 28 (0, 0))) ∧ Aside0 (Kept w w' (fun k_ => P0_0_ k_)) ∧ Aside0 (Below w0.heap.size w0 w'))
 case atStart => exact ⟨(wrap64 (a2 - 1)), (l0_0), (a0_1), (.slice Ao4 l0_0.length co4), rs_, H', ⟨Nat.le_refl _⟩, ⟨ro_ HO0_0⟩, ⟨vk_ BK1001⟩, ⟨vk_ BK1002⟩, ⟨by repeat (first | (with_reducible first | exact HK.out | apply Kept.alloc | apply Kept.drewN | apply Kept.drew | refine Kept.setCell ?_ (.inr GW1001.out) _ | refine Kept.setCell ?_ (.inr GW1002.out) _) | exact HK.out)⟩, ⟨bg_⟩⟩
 case round =>
  clear H'
  try clear p2
  try clear c6
  try clear p6
  obtain ⟨x7_1, x1002000_1, x1002001_1, u1002000, rfl, HA, HK1, HO_1002000, BK1001, BK1002, HK, HB⟩ := hrel
  cases gk with
  | zero => exact absurd HA.out (by simp [spec_l1Add.l0])
  | succ k1 =>
   have H := HA.out
   clear HA
   simp only [spec_l1Add.l0] at H
   by_cases c7 : x7_1 ≥ 0
   ·rw [if_pos c7] at H
    have c7b0 : decide (0 ≤ x7_1) = true := decide_eq_true c7
    clear c7
    obtain ⟨ji8, hji8⟩ : ∃ j_ : Int, (IntKind.u64.wrap (x7_1)) = j_ := ⟨_, rfl⟩
    replace H : (if 0 ≤ (ji8) then ((spec_l1Put.f x1002000_1 x1002001_1 (wrap64 (Go.bits .and .u64 (shr .u64 (IntKind.u64.wrap (a1)) (ji8)) 1))).bind fun bt1003 => (spec_l1Add.l0 k1 a1 (wrap64 (x7_1 - 1)) bt1003.1 bt1003.2)) else (none)) = some (r1, r2) := by first | (rw [hji8] at H; exact H) | (simp only [hji8] at H ⊢; exact H)
    by_cases c9 : 0 ≤ (ji8)
    ·rw [if_pos c9] at H
     have c9b0 := eq_true c9
     have c9b1 : decide (0 ≤ (ji8)) = true := decide_eq_true c9
     clear c9
     obtain ⟨ji10, hji10⟩ : ∃ j_ : Int, (shr .u64 (IntKind.u64.wrap (a1)) (ji8)) = j_ := ⟨_, rfl⟩
     replace H : ((spec_l1Put.f x1002000_1 x1002001_1 (wrap64 (Go.bits .and .u64 (ji10) 1))).bind fun bt1003 => (spec_l1Add.l0 k1 a1 (wrap64 (x7_1 - 1)) bt1003.1 bt1003.2)) = some (r1, r2) := by first | (rw [hji10] at H; exact H) | (simp only [hji10] at H ⊢; exact H)
     have hji10_ : ((IntKind.u64.wrap (a1)) / 2 ^ min (ji8).toNat 64) = ji10 := hji10
     have hji10z : (ji8) ≤ 64 → ((IntKind.u64.wrap (a1)) / 2 ^ (ji8).toNat) = ji10 := shr_small hji10
     replace H := Option.bind_eq_some_iff.mp H
     obtain ⟨⟨t1003, t1006⟩, A110, H⟩ := H
     replace H : (spec_l1Add.l0 k1 a1 (wrap64 (x7_1 - 1)) t1003 t1006) = some (r1, r2) := H
     have A11 := am_ A110
     clear A110
     have H' := am_ H
     clear H
     have hnb12 := NB1001_1002.out
     have hnc12 := NB1002_1001.out
     have hcz13_0 := bc2_0 BK1001
     have hcz13_1 := bc2_1 BK1001
     have hfz13_0 := bf_ BK1001 0
     have hfz13_1 := bf_ BK1001 1
     obtain ⟨Ao14, co14, eo14⟩ := Kd.R_slice HO_1002000.out
     subst eo14
     go_wp2_with (first | ((with_reducible refine gate_callee (f := 116) rfl ?_); refine goesL_ (some 22) rfl rfl Try.func116 (by kernel_rfl) rfl #[.agg #[.slice Ao14 x1002000_1.length co14, .int .i64 x1002001_1], .int .i64 (wrap64 (Go.bits .and .u64 (ji10) 1))] rfl (by (try simp only [List.map_toArray, List.map_cons, List.map_nil]); first | done | (simp only [hji10]; rfl) | rfl | (simp only [List.length_drop, List.length_take]; rfl)) ?_; (with_reducible refine (spec_l1Put.calls (fun k_ => some k_ = (.slice Ao14 x1002000_1.length co14 : Value).ownBlock) (.slice Ao14 x1002000_1.length co14) x1002000_1 x1002001_1 (wrap64 (Go.bits .and .u64 (ji10) 1)) t1003 t1006 w0 _ ?side1 ?side2 A11.out).mono ?_); (case side1 => repeat (first | (with_reducible first | exact HB.out | apply below_alloc | apply pw_below_drewN | apply below_drew1 | refine below_set ?_ GE1001.out | refine below_set ?_ GE1002.out) | exact HB.out)); (case side2 => exact Kd.R_tight rfl HO_1002000.out); rintro e w15 ⟨v1004, rfl, ho0, hb, hkp⟩; refine ⟨_, rfl, ?_⟩; have n0_ := am_ (blk_kept (vk_ BK1001) hkp (fun hs_ => (fun e_ => (Kd.R_ne HO_1002000.out BK1001.out (by decide)) e_) hs_)); have n1_ := am_ (blk_kept (vk_ BK1002) hkp (fun hs_ => (fun e_ => (Kd.R_ne HO_1002000.out BK1002.out (by decide)) e_) hs_)); have n2_ := am_ (Kd.R_mono (ok' := fun k_ => (P0_0_ k_ ∨ w.heap.size ≤ k_)) ho0 (fun k_ hk_ => Or.elim hk_ (fun hs_ => (HO_1002000.out.1 k_ (hs_).symm)) (fun hn_ => (.inr (Nat.le_trans (by first | exact HK.out.1 | exact (show Kept w _ (fun k_ => P0_0_ k_) from by repeat (first | (with_reducible first | exact HK.out | apply Kept.alloc | apply Kept.drewN | apply Kept.drew | refine Kept.setCell ?_ (.inr GW1001.out) _ | refine Kept.setCell ?_ (.inr GW1002.out) _) | exact HK.out)).1) hn_))))); have n3_ := am_ (Kept.then_ (S := (fun k_ => P0_0_ k_)) (by repeat (first | (with_reducible first | exact HK.out | apply Kept.alloc | apply Kept.drewN | apply Kept.drew | refine Kept.setCell ?_ (.inr GW1001.out) _ | refine Kept.setCell ?_ (.inr GW1002.out) _) | exact HK.out)) hkp (fun k_ hs_ => (fun e_ => (HO_1002000.out.1 k_ e_.symm)) hs_)); have n4_ := am_ (hb); clear BK1001; clear BK1002; clear HK; clear HB; clear HO_1002000; have BK1001 := n0_; have BK1002 := n1_; have HO1005 := n2_; have HK := n3_; have HB := n4_; clear n0_ n1_ n2_ n3_ n4_; (try clear hb); (try clear hkp); (try clear ho0); obtain ⟨Ao16, co16, eo16⟩ := Kd.R_slice HO1005.out; subst eo16; have hcz17_0 := bc2_0 BK1001; have hcz17_1 := bc2_1 BK1001; have hfz17_0 := bf_ BK1001 0; have hfz17_1 := bf_ BK1001 1))
     go_roundg k1
     case measure => have := HK1.out; omega
     case rel => exact ⟨(wrap64 (x7_1 - 1)), (t1003), (t1006), (.slice Ao16 t1003.length co16), rs_, H', ⟨by have := HK1.out; omega⟩, ⟨by (with_reducible repeat (first | apply Kd.R_alloc | apply Kd.R_drewN | apply Kd.R_drew)); exact Kd.R_mono (Kd.R_far (p := ⟨gb1001, 1, none⟩) (Kd.R_far (p := ⟨gb1001, 0, none⟩) (Kd.R_types HO1005.out BK1001.out (by decide)) (fun _ hk => hk.2) (.slice Ao16 t1003.length co16)) (fun _ hk => hk.2) (.int .i64 t1006)) (fun _ hk => hk.1)⟩, ⟨by (with_reducible repeat (first | refine blk_drewN ?_ _ | refine blk_drew ?_ | refine blk_alloc ?_ _)); refine blk_put (cs := #[.slice Ao16 t1003.length co16, .int .i64 x1002001_1]) ?_ 1 _ rfl; (with_reducible repeat (first | refine blk_drewN ?_ _ | refine blk_drew ?_ | refine blk_alloc ?_ _)); refine blk_put (cs := #[.slice Ao14 x1002000_1.length co14, .int .i64 x1002001_1]) ?_ 0 _ rfl; (with_reducible repeat (first | refine blk_drewN ?_ _ | refine blk_drew ?_ | refine blk_alloc ?_ _)); exact BK1001.out⟩, ⟨by (with_reducible repeat (first | refine blk_drewN ?_ _ | refine blk_drew ?_ | refine blk_alloc ?_ _)); refine blk_far ?_ NB1002_1001.out _; (with_reducible repeat (first | refine blk_drewN ?_ _ | refine blk_drew ?_ | refine blk_alloc ?_ _)); refine blk_far ?_ NB1002_1001.out _; (with_reducible repeat (first | refine blk_drewN ?_ _ | refine blk_drew ?_ | refine blk_alloc ?_ _)); exact BK1002.out⟩, ⟨by repeat (first | (with_reducible first | exact HK.out | apply Kept.alloc | apply Kept.drewN | apply Kept.drew | refine Kept.setCell ?_ (.inr GW1001.out) _ | refine Kept.setCell ?_ (.inr GW1002.out) _) | exact HK.out)⟩, ⟨bg_⟩⟩
    ·rw [if_neg c9] at H
     exact absurd H (by simp)
   ·rw [if_neg c7] at H
    have c7b0 : decide (0 ≤ x7_1) = false := decide_eq_false c7
    clear c7
    simp only [Option.some.injEq, Prod.mk.injEq] at H
    obtain ⟨rfl, rfl⟩ := H
    have hnb18 := NB1001_1002.out
    have hnc18 := NB1002_1001.out
    have hcz19_0 := bc2_0 BK1001
    have hcz19_1 := bc2_1 BK1001
    have hfz19_0 := bf_ BK1001 0
    have hfz19_1 := bf_ BK1001 1
    obtain ⟨Ao20, co20, eo20⟩ := Kd.R_slice HO_1002000.out
    subst eo20
    have hcz21_0 := bc2_0 BK1002
    have hcz21_1 := bc2_1 BK1002
    have hfz21_0 := bf_ BK1002 0
    have hfz21_1 := bf_ BK1002 1
    go_wp2
    refine bodyPost_ret (results_cell_row rfl _ _ gb1002 28 #[.slice Ao20 x1002000_1.length co20, .int .i64 x1002001_1] (0, 0) _ rfl (by (with_reducible repeat (first | refine blk_drewN ?_ _ | refine blk_drew ?_ | refine blk_alloc ?_ _)); refine blk_put (cs := #[.slice Ao20 x1002000_1.length co20, .int .i64 0]) ?_ 1 _ rfl; (with_reducible repeat (first | refine blk_drewN ?_ _ | refine blk_drew ?_ | refine blk_alloc ?_ _)); refine blk_put (cs := #[.slice none 0 0, .int .i64 0]) ?_ 0 _ rfl; (with_reducible repeat (first | refine blk_drewN ?_ _ | refine blk_drew ?_ | refine blk_alloc ?_ _)); exact BK1002.out) Try.underlying28 rfl (by kernel_rfl)) rfl ?_
    exact ⟨_, rf_, by (with_reducible repeat (first | apply Kd.R_alloc | apply Kd.R_drewN | apply Kd.R_drew)); exact Kd.R_mono (Kd.R_far (p := ⟨gb1002, 1, none⟩) (Kd.R_far (p := ⟨gb1002, 0, none⟩) (Kd.R_types HO_1002000.out BK1002.out (by decide)) (fun _ hk => hk.2) (.slice Ao20 x1002000_1.length co20)) (fun _ hk => hk.2) (.int .i64 x1002001_1)) (fun _ hk => hk.1), bg_, by repeat (first | (with_reducible first | exact HK.out | apply Kept.alloc | apply Kept.drewN | apply Kept.drew | refine Kept.setCell ?_ (.inr GW1001.out) _ | refine Kept.setCell ?_ (.inr GW1002.out) _) | exact HK.out)⟩

/-! ### spec_AddBits: function 20 -/
def spec_AddBits.f (k : Nat) (l0_0 : List Int) (a0_1 : Int) (a1 : Int) (a2 : Int) : Option (List Int × Int) := (spec_GoodBits.f k l0_0 a0_1).bind fun t1003 => (if t1003 = true then (if a2 < 0 then (some (([] : List Int), 0)) else (if a2 > 64 then (some (([] : List Int), 0)) else (if (wrap64 (a0_1 + a2)) > 80000 then (some (([] : List Int), 0)) else (if ([] : List Int).length + l0_0.length < 140737488355328 then ((spec_l1Add.f k (([] : List Int) ++ l0_0) a0_1 a1 a2).bind fun bt1008 => (some (bt1008.1, bt1008.2))) else (none))))) else (some (([] : List Int), 0)))
theorem spec_AddBits.mono : ∀ a0 a1 a2 a3 k, LeO (spec_AddBits.f k a0 a1 a2 a3) (spec_AddBits.f (k + 1) a0 a1 a2 a3) := by
 intro a0 a1 a2 a3 k
 unfold spec_AddBits.f
 repeat' first
   | with_reducible first | exact spec_GoodBits.mono _ _ _ | exact spec_l1Add.mono _ _ _ _ _ | exact LeO.refl _ | exact LeO.none _ | refine LeO.ite ?_ ?_ | refine LeO.bind ?_ (fun _ => ?_)
   | exact spec_GoodBits.mono _ _ _
   | exact spec_l1Add.mono _ _ _ _ _
   | exact LeO.none _
   | refine LeO.ite ?_ ?_
   | refine LeO.bind ?_ (fun _ => ?_)
set_option maxHeartbeats 8000000 in
set_option maxRecDepth 100000 in
theorem spec_AddBits.calls (k : Nat) (A0_0 : Option Addr) (c0_0 : Nat) (l0_0 : List Int) (a0_1 : Int) (a1 : Int) (a2 : Int) (r1 : List Int) (r2 : Int) (w : World) (hr0_0 : Kd.C (Kd.int .u8) w A0_0 l0_0.length l0_0) (hc0_0 : l0_0.length ≤ c0_0) (h : spec_AddBits.f k l0_0 a0_1 a1 a2 = some (r1, r2)) :
  Calls Try.prog 20 #[.agg #[.slice A0_0 l0_0.length c0_0, .int .i64 a0_1], .int .i64 a1, .int .i64 a2] w fun e w' => ∃ v0_ : Value, e = .returned (.agg #[v0_, .int .i64 r2]) ∧ Kd.R (Kd.int .u8) 5 w' w.heap.size (fun _ => True) v0_ r1 ∧ Below w.heap.size w w' := by
 have hu28 := Try.underlying28
 have HR0_0 := am_ hr0_0
 have HC0_0 := am_ hc0_0
 clear hr0_0 hc0_0
 have HB := am_ (Below.refl w.heap.size w)
 have H : ((spec_GoodBits.f k l0_0 a0_1).bind fun t1003 => (if t1003 = true then (if a2 < 0 then (some (([] : List Int), 0)) else (if a2 > 64 then (some (([] : List Int), 0)) else (if (wrap64 (a0_1 + a2)) > 80000 then (some (([] : List Int), 0)) else (if ([] : List Int).length + l0_0.length < 140737488355328 then ((spec_l1Add.f k (([] : List Int) ++ l0_0) a0_1 a1 a2).bind fun bt1008 => (some (bt1008.1, bt1008.2))) else (none))))) else (some (([] : List Int), 0)))) = some (r1, r2) := h
 clear h
 replace H := Option.bind_eq_some_iff.mp H
 obtain ⟨t1003, A40, H⟩ := H
 replace H : (if t1003 = true then (if a2 < 0 then (some (([] : List Int), 0)) else (if a2 > 64 then (some (([] : List Int), 0)) else (if (wrap64 (a0_1 + a2)) > 80000 then (some (([] : List Int), 0)) else (if ([] : List Int).length + l0_0.length < 140737488355328 then ((spec_l1Add.f k (([] : List Int) ++ l0_0) a0_1 a1 a2).bind fun bt1008 => (some (bt1008.1, bt1008.2))) else (none))))) else (some (([] : List Int), 0))) = some (r1, r2) := H
 have A4 := am_ A40
 clear A40
 by_cases c5 : t1003 = true
 ·subst c5
  have H1 : (if a2 < 0 then (some (([] : List Int), 0)) else (if a2 > 64 then (some (([] : List Int), 0)) else (if (wrap64 (a0_1 + a2)) > 80000 then (some (([] : List Int), 0)) else (if ([] : List Int).length + l0_0.length < 140737488355328 then ((spec_l1Add.f k (([] : List Int) ++ l0_0) a0_1 a1 a2).bind fun bt1008 => (some (bt1008.1, bt1008.2))) else (none))))) = some (r1, r2) := by rw [if_pos rfl] at H; exact H
  clear H
  have H := H1
  clear H1
  by_cases c6 : a2 < 0
  ·rw [if_pos c6] at H
   have c6b0 : decide (a2 < 0) = true := decide_eq_true c6
   clear c6
   simp only [Option.some.injEq, Prod.mk.injEq] at H
   obtain ⟨rfl, rfl⟩ := H
   go_enter Try.func20, Try.ntmps20
   go_wp2_with (first | ((with_reducible refine gate_dst (N := 3) rfl ?_); refine box_event ?hg (N := 3) ?hd (cs := #[.slice A0_0 l0_0.length c0_0, .int .i64 a0_1]) (t := 28) ?hr ?_; (case hd => rfl); (case hg => rfl); (case hr => first | (go_simp; done) | (go_simp; rfl)); intro gb1001 hg w7 hbox hb; have n0_ := am_ (below_step bl_ hb); have n1_ := am_ (hbox); have n2_ := am_ (gs_ hg : w.heap.size ≤ gb1001); have n3_ := n2_; clear HB; have HB := n0_; have BK1001 := n1_; have GW1001 := n2_; have GE1001 := n3_; clear n0_ n1_ n2_ n3_; clear hb hbox hg) | ((with_reducible refine gate_dst (N := 6) rfl ?_); refine box_event ?hg (N := 6) ?hd (cs := #[.slice none 0 0, .int .i64 0]) (t := 28) ?hr ?_; (case hd => rfl); (case hg => rfl); (case hr => first | (go_simp; done) | (go_simp; rfl)); intro gb1002 hg w8 hbox hb; have n0_ := am_ (blk_below (g := gb1001) (vk_ BK1001) hb); have n1_ := am_ (below_step bg_ hb); have n2_ := am_ (hbox); have n3_ := am_ (gg_ hg : w.heap.size ≤ gb1002); have n4_ := n3_; have n5_ := am_ ((by rw [hg]; exact Nat.ne_of_lt (blk_lt (g := gb1001) (o := .cells #[.slice A0_0 l0_0.length c0_0, .int .i64 a0_1] 28 (0, 0)) (vk_ BK1001)) : gb1001 ≠ gb1002)); have n6_ := am_ ((by rw [hg]; exact Nat.ne_of_gt (blk_lt (g := gb1001) (o := .cells #[.slice A0_0 l0_0.length c0_0, .int .i64 a0_1] 28 (0, 0)) (vk_ BK1001)) : gb1002 ≠ gb1001)); clear BK1001; clear HB; have BK1001 := n0_; have HB := n1_; have BK1002 := n2_; have GW1002 := n3_; have GE1002 := n4_; have NB1001_1002 := n5_; have NB1002_1001 := n6_; clear n0_ n1_ n2_ n3_ n4_ n5_ n6_; clear hb hbox hg; have hnb9 := NB1001_1002.out; have hnc9 := NB1002_1001.out; have hcz10_0 := bc2_0 BK1001; have hcz10_1 := bc2_1 BK1001; have hfz10_0 := bf_ BK1001 0; have hfz10_1 := bf_ BK1001 1) | ((with_reducible refine gate_callee (f := 63) rfl ?_); refine goesL_ (some 9) rfl rfl Try.func63 (by kernel_rfl) rfl #[.agg #[.slice A0_0 l0_0.length c0_0, .int .i64 a0_1]] rfl ag_ ?_; (with_reducible refine (spec_GoodBits.calls k _ _ l0_0 a0_1 true _ ?side1 ?side2 A4.out).mono ?_); (case side1 => exact cc_ (Kd.C_below HR0_0.out HB.out)); (case side2 => exact HC0_0.out); rintro e w11 ⟨rfl, hb⟩; refine ⟨_, rfl, ?_⟩; have n0_ := am_ (blk_below (g := gb1001) (vk_ BK1001) hb); have n1_ := am_ (blk_below (g := gb1002) (vk_ BK1002) hb); have n2_ := am_ (below_step bg_ hb); clear BK1001; clear BK1002; clear HB; have BK1001 := n0_; have BK1002 := n1_; have HB := n2_; clear n0_ n1_ n2_; (try clear hb); (try clear hb2); (try clear hk); (try clear hi); have hcz12_0 := bc2_0 BK1002; have hcz12_1 := bc2_1 BK1002; have hfz12_0 := bf_ BK1002 0; have hfz12_1 := bf_ BK1002 1))
   refine bodyPost_ret (results_cell_row rfl _ _ gb1002 28 #[.slice none 0 0, .int .i64 0] (0, 0) _ rfl (by (with_reducible repeat (first | refine blk_drewN ?_ _ | refine blk_drew ?_ | refine blk_alloc ?_ _)); refine blk_put (cs := #[.slice none 0 0, .int .i64 0]) ?_ 1 _ rfl; (with_reducible repeat (first | refine blk_drewN ?_ _ | refine blk_drew ?_ | refine blk_alloc ?_ _)); refine blk_put (cs := #[.slice none 0 0, .int .i64 0]) ?_ 0 _ rfl; (with_reducible repeat (first | refine blk_drewN ?_ _ | refine blk_drew ?_ | refine blk_alloc ?_ _)); exact BK1002.out) Try.underlying28 rfl (by kernel_rfl)) rfl ?_
   exact ⟨_, rf_, ni_, bg_⟩
  ·rw [if_neg c6] at H
   have c6b0 : decide (a2 < 0) = false := decide_eq_false c6
   clear c6
   by_cases c13 : a2 > 64
   ·rw [if_pos c13] at H
    have c13b0 : decide (64 < a2) = true := decide_eq_true c13
    clear c13
    simp only [Option.some.injEq, Prod.mk.injEq] at H
    obtain ⟨rfl, rfl⟩ := H
    go_enter Try.func20, Try.ntmps20
    go_wp2_with (first | ((with_reducible refine gate_dst (N := 3) rfl ?_); refine box_event ?hg (N := 3) ?hd (cs := #[.slice A0_0 l0_0.length c0_0, .int .i64 a0_1]) (t := 28) ?hr ?_; (case hd => rfl); (case hg => rfl); (case hr => first | (go_simp; done) | (go_simp; rfl)); intro gb1001 hg w14 hbox hb; have n0_ := am_ (below_step bl_ hb); have n1_ := am_ (hbox); have n2_ := am_ (gs_ hg : w.heap.size ≤ gb1001); have n3_ := n2_; clear HB; have HB := n0_; have BK1001 := n1_; have GW1001 := n2_; have GE1001 := n3_; clear n0_ n1_ n2_ n3_; clear hb hbox hg) | ((with_reducible refine gate_dst (N := 6) rfl ?_); refine box_event ?hg (N := 6) ?hd (cs := #[.slice none 0 0, .int .i64 0]) (t := 28) ?hr ?_; (case hd => rfl); (case hg => rfl); (case hr => first | (go_simp; done) | (go_simp; rfl)); intro gb1002 hg w15 hbox hb; have n0_ := am_ (blk_below (g := gb1001) (vk_ BK1001) hb); have n1_ := am_ (below_step bg_ hb); have n2_ := am_ (hbox); have n3_ := am_ (gg_ hg : w.heap.size ≤ gb1002); have n4_ := n3_; have n5_ := am_ ((by rw [hg]; exact Nat.ne_of_lt (blk_lt (g := gb1001) (o := .cells #[.slice A0_0 l0_0.length c0_0, .int .i64 a0_1] 28 (0, 0)) (vk_ BK1001)) : gb1001 ≠ gb1002)); have n6_ := am_ ((by rw [hg]; exact Nat.ne_of_gt (blk_lt (g := gb1001) (o := .cells #[.slice A0_0 l0_0.length c0_0, .int .i64 a0_1] 28 (0, 0)) (vk_ BK1001)) : gb1002 ≠ gb1001)); clear BK1001; clear HB; have BK1001 := n0_; have HB := n1_; have BK1002 := n2_; have GW1002 := n3_; have GE1002 := n4_; have NB1001_1002 := n5_; have NB1002_1001 := n6_; clear n0_ n1_ n2_ n3_ n4_ n5_ n6_; clear hb hbox hg; have hnb16 := NB1001_1002.out; have hnc16 := NB1002_1001.out; have hcz17_0 := bc2_0 BK1001; have hcz17_1 := bc2_1 BK1001; have hfz17_0 := bf_ BK1001 0; have hfz17_1 := bf_ BK1001 1) | ((with_reducible refine gate_callee (f := 63) rfl ?_); refine goesL_ (some 9) rfl rfl Try.func63 (by kernel_rfl) rfl #[.agg #[.slice A0_0 l0_0.length c0_0, .int .i64 a0_1]] rfl ag_ ?_; (with_reducible refine (spec_GoodBits.calls k _ _ l0_0 a0_1 true _ ?side1 ?side2 A4.out).mono ?_); (case side1 => exact cc_ (Kd.C_below HR0_0.out HB.out)); (case side2 => exact HC0_0.out); rintro e w18 ⟨rfl, hb⟩; refine ⟨_, rfl, ?_⟩; have n0_ := am_ (blk_below (g := gb1001) (vk_ BK1001) hb); have n1_ := am_ (blk_below (g := gb1002) (vk_ BK1002) hb); have n2_ := am_ (below_step bg_ hb); clear BK1001; clear BK1002; clear HB; have BK1001 := n0_; have BK1002 := n1_; have HB := n2_; clear n0_ n1_ n2_; (try clear hb); (try clear hb2); (try clear hk); (try clear hi); have hcz19_0 := bc2_0 BK1002; have hcz19_1 := bc2_1 BK1002; have hfz19_0 := bf_ BK1002 0; have hfz19_1 := bf_ BK1002 1))
    refine bodyPost_ret (results_cell_row rfl _ _ gb1002 28 #[.slice none 0 0, .int .i64 0] (0, 0) _ rfl (by (with_reducible repeat (first | refine blk_drewN ?_ _ | refine blk_drew ?_ | refine blk_alloc ?_ _)); refine blk_put (cs := #[.slice none 0 0, .int .i64 0]) ?_ 1 _ rfl; (with_reducible repeat (first | refine blk_drewN ?_ _ | refine blk_drew ?_ | refine blk_alloc ?_ _)); refine blk_put (cs := #[.slice none 0 0, .int .i64 0]) ?_ 0 _ rfl; (with_reducible repeat (first | refine blk_drewN ?_ _ | refine blk_drew ?_ | refine blk_alloc ?_ _)); exact BK1002.out) Try.underlying28 rfl (by kernel_rfl)) rfl ?_
    exact ⟨_, rf_, ni_, bg_⟩
   ·rw [if_neg c13] at H
    have c13b0 : decide (64 < a2) = false := decide_eq_false c13
    clear c13
    by_cases c20 : (wrap64 (a0_1 + a2)) > 80000
    ·rw [if_pos c20] at H
     have c20b0 : decide (80000 < (wrap64 (a0_1 + a2))) = true := decide_eq_true c20
     clear c20
     simp only [Option.some.injEq, Prod.mk.injEq] at H
     obtain ⟨rfl, rfl⟩ := H
     go_enter Try.func20, Try.ntmps20
     go_wp2_with (first | ((with_reducible refine gate_dst (N := 3) rfl ?_); refine box_event ?hg (N := 3) ?hd (cs := #[.slice A0_0 l0_0.length c0_0, .int .i64 a0_1]) (t := 28) ?hr ?_; (case hd => rfl); (case hg => rfl); (case hr => first | (go_simp; done) | (go_simp; rfl)); intro gb1001 hg w21 hbox hb; have n0_ := am_ (below_step bl_ hb); have n1_ := am_ (hbox); have n2_ := am_ (gs_ hg : w.heap.size ≤ gb1001); have n3_ := n2_; clear HB; have HB := n0_; have BK1001 := n1_; have GW1001 := n2_; have GE1001 := n3_; clear n0_ n1_ n2_ n3_; clear hb hbox hg) | ((with_reducible refine gate_dst (N := 6) rfl ?_); refine box_event ?hg (N := 6) ?hd (cs := #[.slice none 0 0, .int .i64 0]) (t := 28) ?hr ?_; (case hd => rfl); (case hg => rfl); (case hr => first | (go_simp; done) | (go_simp; rfl)); intro gb1002 hg w22 hbox hb; have n0_ := am_ (blk_below (g := gb1001) (vk_ BK1001) hb); have n1_ := am_ (below_step bg_ hb); have n2_ := am_ (hbox); have n3_ := am_ (gg_ hg : w.heap.size ≤ gb1002); have n4_ := n3_; have n5_ := am_ ((by rw [hg]; exact Nat.ne_of_lt (blk_lt (g := gb1001) (o := .cells #[.slice A0_0 l0_0.length c0_0, .int .i64 a0_1] 28 (0, 0)) (vk_ BK1001)) : gb1001 ≠ gb1002)); have n6_ := am_ ((by rw [hg]; exact Nat.ne_of_gt (blk_lt (g := gb1001) (o := .cells #[.slice A0_0 l0_0.length c0_0, .int .i64 a0_1] 28 (0, 0)) (vk_ BK1001)) : gb1002 ≠ gb1001)); clear BK1001; clear HB; have BK1001 := n0_; have HB := n1_; have BK1002 := n2_; have GW1002 := n3_; have GE1002 := n4_; have NB1001_1002 := n5_; have NB1002_1001 := n6_; clear n0_ n1_ n2_ n3_ n4_ n5_ n6_; clear hb hbox hg; have hnb23 := NB1001_1002.out; have hnc23 := NB1002_1001.out; have hcz24_0 := bc2_0 BK1001; have hcz24_1 := bc2_1 BK1001; have hfz24_0 := bf_ BK1001 0; have hfz24_1 := bf_ BK1001 1) | ((with_reducible refine gate_callee (f := 63) rfl ?_); refine goesL_ (some 9) rfl rfl Try.func63 (by kernel_rfl) rfl #[.agg #[.slice A0_0 l0_0.length c0_0, .int .i64 a0_1]] rfl ag_ ?_; (with_reducible refine (spec_GoodBits.calls k _ _ l0_0 a0_1 true _ ?side1 ?side2 A4.out).mono ?_); (case side1 => exact cc_ (Kd.C_below HR0_0.out HB.out)); (case side2 => exact HC0_0.out); rintro e w25 ⟨rfl, hb⟩; refine ⟨_, rfl, ?_⟩; have n0_ := am_ (blk_below (g := gb1001) (vk_ BK1001) hb); have n1_ := am_ (blk_below (g := gb1002) (vk_ BK1002) hb); have n2_ := am_ (below_step bg_ hb); clear BK1001; clear BK1002; clear HB; have BK1001 := n0_; have BK1002 := n1_; have HB := n2_; clear n0_ n1_ n2_; (try clear hb); (try clear hb2); (try clear hk); (try clear hi); have hcz26_0 := bc2_0 BK1001; have hcz26_1 := bc2_1 BK1001; have hfz26_0 := bf_ BK1001 0; have hfz26_1 := bf_ BK1001 1; have hcz27_0 := bc2_0 BK1002; have hcz27_1 := bc2_1 BK1002; have hfz27_0 := bf_ BK1002 0; have hfz27_1 := bf_ BK1002 1))
     refine bodyPost_ret (results_cell_row rfl _ _ gb1002 28 #[.slice none 0 0, .int .i64 0] (0, 0) _ rfl (by (with_reducible repeat (first | refine blk_drewN ?_ _ | refine blk_drew ?_ | refine blk_alloc ?_ _)); refine blk_put (cs := #[.slice none 0 0, .int .i64 0]) ?_ 1 _ rfl; (with_reducible repeat (first | refine blk_drewN ?_ _ | refine blk_drew ?_ | refine blk_alloc ?_ _)); refine blk_put (cs := #[.slice none 0 0, .int .i64 0]) ?_ 0 _ rfl; (with_reducible repeat (first | refine blk_drewN ?_ _ | refine blk_drew ?_ | refine blk_alloc ?_ _)); exact BK1002.out) Try.underlying28 rfl (by kernel_rfl)) rfl ?_
     exact ⟨_, rf_, ni_, bg_⟩
    ·rw [if_neg c20] at H
     have c20b0 : decide (80000 < (wrap64 (a0_1 + a2))) = false := decide_eq_false c20
     clear c20
     by_cases c28 : ([] : List Int).length + l0_0.length < 140737488355328
     ·rw [if_pos c28] at H
      have LMc28 := am_ c28
      clear c28
      obtain ⟨y1005, hy1005⟩ : ∃ y_ : List Int, y_ = (([] : List Int) ++ l0_0) := ⟨_, rfl⟩
      replace H : ((spec_l1Add.f k y1005 a0_1 a1 a2).bind fun bt1008 => (some (bt1008.1, bt1008.2))) = some (r1, r2) := by first | (rw [hy1005]; with_reducible exact H) | (have H2_ := (Option.bind_some _ _).symm.trans H; rw [hy1005]; with_reducible exact H2_) | (have H2_ := (Option.bind_some _ _).symm.trans H; with_reducible exact H2_) | with_reducible exact H | (rw [hy1005]; exact H) | exact H
      have Ny1005 := am_ hy1005
      clear hy1005
      replace H := Option.bind_eq_some_iff.mp H
      obtain ⟨⟨t1008, t1011⟩, A290, H⟩ := H
      replace H : (some (t1008, t1011)) = some (r1, r2) := H
      have A29 := am_ A290
      clear A290
      simp only [Option.some.injEq, Prod.mk.injEq] at H
      obtain ⟨rfl, rfl⟩ := H
      go_enter Try.func20, Try.ntmps20
      go_wp2_with (first | ((with_reducible refine gate_dst (N := 3) rfl ?_); refine box_event ?hg (N := 3) ?hd (cs := #[.slice A0_0 l0_0.length c0_0, .int .i64 a0_1]) (t := 28) ?hr ?_; (case hd => rfl); (case hg => rfl); (case hr => first | (go_simp; done) | (go_simp; rfl)); intro gb1001 hg w30 hbox hb; have n0_ := am_ (below_step bl_ hb); have n1_ := am_ (hbox); have n2_ := am_ (gs_ hg : w.heap.size ≤ gb1001); have n3_ := n2_; clear HB; have HB := n0_; have BK1001 := n1_; have GW1001 := n2_; have GE1001 := n3_; clear n0_ n1_ n2_ n3_; clear hb hbox hg) | ((with_reducible refine gate_dst (N := 6) rfl ?_); refine box_event ?hg (N := 6) ?hd (cs := #[.slice none 0 0, .int .i64 0]) (t := 28) ?hr ?_; (case hd => rfl); (case hg => rfl); (case hr => first | (go_simp; done) | (go_simp; rfl)); intro gb1002 hg w31 hbox hb; have n0_ := am_ (blk_below (g := gb1001) (vk_ BK1001) hb); have n1_ := am_ (below_step bg_ hb); have n2_ := am_ (hbox); have n3_ := am_ (gg_ hg : w.heap.size ≤ gb1002); have n4_ := n3_; have n5_ := am_ ((by rw [hg]; exact Nat.ne_of_lt (blk_lt (g := gb1001) (o := .cells #[.slice A0_0 l0_0.length c0_0, .int .i64 a0_1] 28 (0, 0)) (vk_ BK1001)) : gb1001 ≠ gb1002)); have n6_ := am_ ((by rw [hg]; exact Nat.ne_of_gt (blk_lt (g := gb1001) (o := .cells #[.slice A0_0 l0_0.length c0_0, .int .i64 a0_1] 28 (0, 0)) (vk_ BK1001)) : gb1002 ≠ gb1001)); clear BK1001; clear HB; have BK1001 := n0_; have HB := n1_; have BK1002 := n2_; have GW1002 := n3_; have GE1002 := n4_; have NB1001_1002 := n5_; have NB1002_1001 := n6_; clear n0_ n1_ n2_ n3_ n4_ n5_ n6_; clear hb hbox hg; have hnb32 := NB1001_1002.out; have hnc32 := NB1002_1001.out; have hcz33_0 := bc2_0 BK1001; have hcz33_1 := bc2_1 BK1001; have hfz33_0 := bf_ BK1001 0; have hfz33_1 := bf_ BK1001 1) | ((with_reducible refine gate_callee (f := 63) rfl ?_); refine goesL_ (some 9) rfl rfl Try.func63 (by kernel_rfl) rfl #[.agg #[.slice A0_0 l0_0.length c0_0, .int .i64 a0_1]] rfl ag_ ?_; (with_reducible refine (spec_GoodBits.calls k _ _ l0_0 a0_1 true _ ?side1 ?side2 A4.out).mono ?_); (case side1 => exact cc_ (Kd.C_below HR0_0.out HB.out)); (case side2 => exact HC0_0.out); rintro e w34 ⟨rfl, hb⟩; refine ⟨_, rfl, ?_⟩; have n0_ := am_ (blk_below (g := gb1001) (vk_ BK1001) hb); have n1_ := am_ (blk_below (g := gb1002) (vk_ BK1002) hb); have n2_ := am_ (below_step bg_ hb); clear BK1001; clear BK1002; clear HB; have BK1001 := n0_; have BK1002 := n1_; have HB := n2_; clear n0_ n1_ n2_; (try clear hb); (try clear hb2); (try clear hk); (try clear hi); have hcz35_0 := bc2_0 BK1001; have hcz35_1 := bc2_1 BK1001; have hfz35_0 := bf_ BK1001 0; have hfz35_1 := bf_ BK1001 1) | ((with_reducible refine gate_dst (N := 7) rfl ?_); refine box_event ?hg (N := 7) ?hd (cs := #[.slice none 0 0, .int .i64 0]) (t := 28) ?hr ?_; (case hd => rfl); (case hg => rfl); (case hr => first | (go_simp; done) | (go_simp; rfl)); intro gb1004 hg w36 hbox hb; have n0_ := am_ (blk_below (g := gb1001) (vk_ BK1001) hb); have n1_ := am_ (blk_below (g := gb1002) (vk_ BK1002) hb); have n2_ := am_ (below_step bg_ hb); have n3_ := am_ (hbox); have n4_ := am_ (gg_ hg : w.heap.size ≤ gb1004); have n5_ := n4_; have n6_ := am_ ((by rw [hg]; exact Nat.ne_of_lt (blk_lt (g := gb1001) (o := .cells #[.slice A0_0 l0_0.length c0_0, .int .i64 a0_1] 28 (0, 0)) (vk_ BK1001)) : gb1001 ≠ gb1004)); have n7_ := am_ ((by rw [hg]; exact Nat.ne_of_gt (blk_lt (g := gb1001) (o := .cells #[.slice A0_0 l0_0.length c0_0, .int .i64 a0_1] 28 (0, 0)) (vk_ BK1001)) : gb1004 ≠ gb1001)); have n8_ := am_ ((by rw [hg]; exact Nat.ne_of_lt (blk_lt (g := gb1002) (o := .cells #[.slice none 0 0, .int .i64 0] 28 (0, 0)) (vk_ BK1002)) : gb1002 ≠ gb1004)); have n9_ := am_ ((by rw [hg]; exact Nat.ne_of_gt (blk_lt (g := gb1002) (o := .cells #[.slice none 0 0, .int .i64 0] 28 (0, 0)) (vk_ BK1002)) : gb1004 ≠ gb1002)); clear BK1001; clear BK1002; clear HB; have BK1001 := n0_; have BK1002 := n1_; have HB := n2_; have BK1004 := n3_; have GW1004 := n4_; have GE1004 := n5_; have NB1001_1004 := n6_; have NB1004_1001 := n7_; have NB1002_1004 := n8_; have NB1004_1002 := n9_; clear n0_ n1_ n2_ n3_ n4_ n5_ n6_ n7_ n8_ n9_; clear hb hbox hg; have hnb37 := NB1004_1001.out; have hnc37 := NB1001_1004.out; have hnb38 := NB1004_1002.out; have hnc38 := NB1002_1004.out; have hcz39_0 := bc2_0 BK1004; have hcz39_1 := bc2_1 BK1004; have hfz39_0 := bf_ BK1004 0; have hfz39_1 := bf_ BK1004 1; have hcz40_0 := bc2_0 BK1001; have hcz40_1 := bc2_1 BK1001; have hfz40_0 := bf_ BK1001 0; have hfz40_1 := bf_ BK1001 1) | ((with_reducible refine gate_builtin (b := .append) (xs := #[.tmp 31, .tmp 33]) rfl ?_); at_builtin; refine Kd.R_append_rows (Kd.int .u8) (w0 := w) w.heap.size rfl (.tmp 31) (.tmp 33) 22 5 (.int .u8 0) 1 rfl Try.underlying22 info5 rfl (by decide) (by omega) (.slice none 0 0) ([] : List Int) l0_0 _ _ _ (fun _ => True) (fun _ => False) rfl rfl ?aO ?aR (fun _ _ h => h) (fun _ h => h.elim) ?aF ?aB ?aS ?aL ?_; (case aR => exact Kd.C_below HR0_0.out bg_); (case aB => exact bg_); (case aF => exact (fun _ _ => trivial)); (case aO => exact ((Kd.R_nil _ _ _ _ (fun _ => True)))); (case aS => exact (below_size bg_)); (case aL => have := LMc28.out; omega); intro v1006 w41 ho hb hg hat; rw [← Ny1005.out] at ho; have n0_ := am_ (blk_grown (g := gb1001) (o := .cells #[.slice A0_0 l0_0.length c0_0, .int .i64 a0_1] 28 (0, 0)) (by (with_reducible repeat (first | refine blk_drewN ?_ _ | refine blk_drew ?_ | refine blk_alloc ?_ _)); refine blk_far ?_ NB1001_1004.out _; (with_reducible repeat (first | refine blk_drewN ?_ _ | refine blk_drew ?_ | refine blk_alloc ?_ _)); refine blk_far ?_ NB1001_1004.out _; (with_reducible repeat (first | refine blk_drewN ?_ _ | refine blk_drew ?_ | refine blk_alloc ?_ _)); exact BK1001.out) hg (by simp [Value.ownBlock])); have n1_ := am_ (blk_grown (g := gb1002) (o := .cells #[.slice none 0 0, .int .i64 0] 28 (0, 0)) (by (with_reducible repeat (first | refine blk_drewN ?_ _ | refine blk_drew ?_ | refine blk_alloc ?_ _)); refine blk_far ?_ NB1002_1004.out _; (with_reducible repeat (first | refine blk_drewN ?_ _ | refine blk_drew ?_ | refine blk_alloc ?_ _)); refine blk_far ?_ NB1002_1004.out _; (with_reducible repeat (first | refine blk_drewN ?_ _ | refine blk_drew ?_ | refine blk_alloc ?_ _)); exact BK1002.out) hg (by simp [Value.ownBlock])); have n2_ := am_ (blk_grown (g := gb1004) (o := .cells #[.slice none 0 0, .int .i64 a0_1] 28 (0, 0)) (by (with_reducible repeat (first | refine blk_drewN ?_ _ | refine blk_drew ?_ | refine blk_alloc ?_ _)); refine blk_put (cs := #[.slice none 0 0, .int .i64 0]) ?_ 1 _ rfl; (with_reducible repeat (first | refine blk_drewN ?_ _ | refine blk_drew ?_ | refine blk_alloc ?_ _)); refine blk_put (cs := #[.slice none 0 0, .int .i64 0]) ?_ 0 _ rfl; (with_reducible repeat (first | refine blk_drewN ?_ _ | refine blk_drew ?_ | refine blk_alloc ?_ _)); exact BK1004.out) hg (by simp [Value.ownBlock])); have n3_ := am_ (hb); have n4_ := am_ (ho); clear BK1001; clear BK1002; clear BK1004; clear HB; have BK1001 := n0_; have BK1002 := n1_; have BK1004 := n2_; have HB := n3_; have HO1007 := n4_; clear n0_ n1_ n2_ n3_ n4_; clear ho hb hg hat; obtain ⟨Ao42, co42, eo42⟩ := Kd.R_slice HO1007.out; subst eo42; have hcz43_0 := bc2_0 BK1004; have hcz43_1 := bc2_1 BK1004; have hfz43_0 := bf_ BK1004 0; have hfz43_1 := bf_ BK1004 1) | ((with_reducible refine gate_store (t := 22) (p := 35) rfl ?_); refine store_event (t := 22) (p := 35) (v := ?vo_w44) (w1 := (w41.setCell ⟨gb1004, 0, none⟩ (.slice Ao42 y1005.length co42))) ?hg ?ho ?hn ?hr ?_; (case ho => rfl); (case hg => rfl); (case hn => rfl); (case hr => first | (go_simp; done) | (go_simp; rfl) | ((try (obtain ⟨_, _, e_⟩ := Kd.R_slice HO1007.out; subst e_)); go_simp; first | done | rfl)); intro w44 hw; have n0_ : Aside0 (Kd.R (Kd.int .u8) 5 w44 w.heap.size (fun _ => True) (.slice Ao42 y1005.length co42) y1005) := ⟨(by rw [hw]; exact (by (with_reducible repeat (first | apply Kd.R_alloc | apply Kd.R_drewN | apply Kd.R_drew)); exact Kd.R_mono (Kd.R_far (p := ⟨gb1004, 0, none⟩) (Kd.R_types HO1007.out BK1004.out (by decide)) (fun _ hk => hk.2) (.slice Ao42 y1005.length co42)) (fun _ hk => trivial)))⟩; have n1_ : Aside0 (w44.heap[gb1001]? = some (.cells #[.slice A0_0 l0_0.length c0_0, .int .i64 a0_1] 28 (0, 0))) := ⟨(by rw [hw]; exact (by (with_reducible repeat (first | refine blk_drewN ?_ _ | refine blk_drew ?_ | refine blk_alloc ?_ _)); refine blk_far ?_ NB1001_1004.out _; (with_reducible repeat (first | refine blk_drewN ?_ _ | refine blk_drew ?_ | refine blk_alloc ?_ _)); exact BK1001.out))⟩; have n2_ : Aside0 (w44.heap[gb1002]? = some (.cells #[.slice none 0 0, .int .i64 0] 28 (0, 0))) := ⟨(by rw [hw]; exact (by (with_reducible repeat (first | refine blk_drewN ?_ _ | refine blk_drew ?_ | refine blk_alloc ?_ _)); refine blk_far ?_ NB1002_1004.out _; (with_reducible repeat (first | refine blk_drewN ?_ _ | refine blk_drew ?_ | refine blk_alloc ?_ _)); exact BK1002.out))⟩; have n3_ : Aside0 (w44.heap[gb1004]? = some (.cells #[.slice Ao42 y1005.length co42, .int .i64 a0_1] 28 (0, 0))) := ⟨(by rw [hw]; exact (by (with_reducible repeat (first | refine blk_drewN ?_ _ | refine blk_drew ?_ | refine blk_alloc ?_ _)); refine blk_put (cs := #[.slice none 0 0, .int .i64 a0_1]) ?_ 0 _ rfl; (with_reducible repeat (first | refine blk_drewN ?_ _ | refine blk_drew ?_ | refine blk_alloc ?_ _)); exact BK1004.out))⟩; have n4_ : Aside0 (Below w.heap.size w w44) := ⟨(by rw [hw]; exact bg_)⟩; clear hw; clear HO1007; clear BK1001; clear BK1002; clear BK1004; clear HB; have HO1007 := n0_; have BK1001 := n1_; have BK1002 := n2_; have BK1004 := n3_; have HB := n4_; clear n0_ n1_ n2_ n3_ n4_; have hcz45_0 := bc2_0 BK1004; have hcz45_1 := bc2_1 BK1004; have hfz45_0 := bf_ BK1004 0; have hfz45_1 := bf_ BK1004 1) | ((with_reducible refine gate_callee (f := 69) rfl ?_); refine goesL_ (some 39) rfl rfl Try.func69 (by kernel_rfl) rfl #[.agg #[.slice Ao42 y1005.length co42, .int .i64 a0_1], .int .i64 a1, .int .i64 a2] rfl ag_ ?_; (with_reducible refine (spec_l1Add.calls k (fun k_ => some k_ = (.slice Ao42 y1005.length co42 : Value).ownBlock) (.slice Ao42 y1005.length co42) y1005 a0_1 a1 a2 t1008 t1011 w _ ?side1 ?side2 A29.out).mono ?_); (case side1 => repeat (first | (with_reducible first | exact HB.out | apply below_alloc | apply pw_below_drewN | apply below_drew1 | refine below_set ?_ GE1001.out | refine below_set ?_ GE1002.out | refine below_set ?_ GE1004.out) | exact HB.out)); (case side2 => exact Kd.R_tight rfl HO1007.out); rintro e w46 ⟨v1009, rfl, ho0, hb, hkp⟩; refine ⟨_, rfl, ?_⟩; have n0_ := am_ (blk_kept (vk_ BK1001) hkp (fun hs_ => (fun e_ => (Kd.R_ne HO1007.out BK1001.out (by decide)) e_) hs_)); have n1_ := am_ (blk_kept (vk_ BK1002) hkp (fun hs_ => (fun e_ => (Kd.R_ne HO1007.out BK1002.out (by decide)) e_) hs_)); have n2_ := am_ (blk_kept (vk_ BK1004) hkp (fun hs_ => (fun e_ => (Kd.R_ne HO1007.out BK1004.out (by decide)) e_) hs_)); have n3_ := am_ (Kd.R_mono (ok' := fun k_ => True) ho0 (fun k_ hk_ => trivial)); have n4_ := am_ (hb); clear BK1001; clear BK1002; clear BK1004; clear HB; clear HO1007; have BK1001 := n0_; have BK1002 := n1_; have BK1004 := n2_; have HO1010 := n3_; have HB := n4_; clear n0_ n1_ n2_ n3_ n4_; (try clear hb); (try clear hkp); (try clear ho0); obtain ⟨Ao47, co47, eo47⟩ := Kd.R_slice HO1010.out; subst eo47; have hcz48_0 := bc2_0 BK1002; have hcz48_1 := bc2_1 BK1002; have hfz48_0 := bf_ BK1002 0; have hfz48_1 := bf_ BK1002 1))
      refine bodyPost_ret (results_cell_row rfl _ _ gb1002 28 #[.slice Ao47 t1008.length co47, .int .i64 t1011] (0, 0) _ rfl (by (with_reducible repeat (first | refine blk_drewN ?_ _ | refine blk_drew ?_ | refine blk_alloc ?_ _)); refine blk_put (cs := #[.slice Ao47 t1008.length co47, .int .i64 0]) ?_ 1 _ rfl; (with_reducible repeat (first | refine blk_drewN ?_ _ | refine blk_drew ?_ | refine blk_alloc ?_ _)); refine blk_put (cs := #[.slice none 0 0, .int .i64 0]) ?_ 0 _ rfl; (with_reducible repeat (first | refine blk_drewN ?_ _ | refine blk_drew ?_ | refine blk_alloc ?_ _)); exact BK1002.out) Try.underlying28 rfl (by kernel_rfl)) rfl ?_
      exact ⟨_, rf_, by (with_reducible repeat (first | apply Kd.R_alloc | apply Kd.R_drewN | apply Kd.R_drew)); exact Kd.R_mono (Kd.R_far (p := ⟨gb1002, 1, none⟩) (Kd.R_far (p := ⟨gb1002, 0, none⟩) (Kd.R_types HO1010.out BK1002.out (by decide)) (fun _ hk => hk.2) (.slice Ao47 t1008.length co47)) (fun _ hk => hk.2) (.int .i64 t1011)) (fun _ hk => trivial), bg_⟩
     ·rw [if_neg c28] at H
      exact absurd H (by simp)
 ·replace c5 := Bool.eq_false_iff.mpr c5
  subst c5
  have H1 : (some (([] : List Int), 0)) = some (r1, r2) := by rw [if_neg (show ¬ (false = true) by decide)] at H; exact H
  clear H
  have H := H1
  clear H1
  simp only [Option.some.injEq, Prod.mk.injEq] at H
  obtain ⟨rfl, rfl⟩ := H
  go_enter Try.func20, Try.ntmps20
  go_wp2_with (first | ((with_reducible refine gate_dst (N := 3) rfl ?_); refine box_event ?hg (N := 3) ?hd (cs := #[.slice A0_0 l0_0.length c0_0, .int .i64 a0_1]) (t := 28) ?hr ?_; (case hd => rfl); (case hg => rfl); (case hr => first | (go_simp; done) | (go_simp; rfl)); intro gb1001 hg w49 hbox hb; have n0_ := am_ (below_step bl_ hb); have n1_ := am_ (hbox); have n2_ := am_ (gs_ hg : w.heap.size ≤ gb1001); have n3_ := n2_; clear HB; have HB := n0_; have BK1001 := n1_; have GW1001 := n2_; have GE1001 := n3_; clear n0_ n1_ n2_ n3_; clear hb hbox hg) | ((with_reducible refine gate_dst (N := 6) rfl ?_); refine box_event ?hg (N := 6) ?hd (cs := #[.slice none 0 0, .int .i64 0]) (t := 28) ?hr ?_; (case hd => rfl); (case hg => rfl); (case hr => first | (go_simp; done) | (go_simp; rfl)); intro gb1002 hg w50 hbox hb; have n0_ := am_ (blk_below (g := gb1001) (vk_ BK1001) hb); have n1_ := am_ (below_step bg_ hb); have n2_ := am_ (hbox); have n3_ := am_ (gg_ hg : w.heap.size ≤ gb1002); have n4_ := n3_; have n5_ := am_ ((by rw [hg]; exact Nat.ne_of_lt (blk_lt (g := gb1001) (o := .cells #[.slice A0_0 l0_0.length c0_0, .int .i64 a0_1] 28 (0, 0)) (vk_ BK1001)) : gb1001 ≠ gb1002)); have n6_ := am_ ((by rw [hg]; exact Nat.ne_of_gt (blk_lt (g := gb1001) (o := .cells #[.slice A0_0 l0_0.length c0_0, .int .i64 a0_1] 28 (0, 0)) (vk_ BK1001)) : gb1002 ≠ gb1001)); clear BK1001; clear HB; have BK1001 := n0_; have HB := n1_; have BK1002 := n2_; have GW1002 := n3_; have GE1002 := n4_; have NB1001_1002 := n5_; have NB1002_1001 := n6_; clear n0_ n1_ n2_ n3_ n4_ n5_ n6_; clear hb hbox hg; have hnb51 := NB1001_1002.out; have hnc51 := NB1002_1001.out; have hcz52_0 := bc2_0 BK1001; have hcz52_1 := bc2_1 BK1001; have hfz52_0 := bf_ BK1001 0; have hfz52_1 := bf_ BK1001 1) | ((with_reducible refine gate_callee (f := 63) rfl ?_); refine goesL_ (some 9) rfl rfl Try.func63 (by kernel_rfl) rfl #[.agg #[.slice A0_0 l0_0.length c0_0, .int .i64 a0_1]] rfl ag_ ?_; (with_reducible refine (spec_GoodBits.calls k _ _ l0_0 a0_1 false _ ?side1 ?side2 A4.out).mono ?_); (case side1 => exact cc_ (Kd.C_below HR0_0.out HB.out)); (case side2 => exact HC0_0.out); rintro e w53 ⟨rfl, hb⟩; refine ⟨_, rfl, ?_⟩; have n0_ := am_ (blk_below (g := gb1001) (vk_ BK1001) hb); have n1_ := am_ (blk_below (g := gb1002) (vk_ BK1002) hb); have n2_ := am_ (below_step bg_ hb); clear BK1001; clear BK1002; clear HB; have BK1001 := n0_; have BK1002 := n1_; have HB := n2_; clear n0_ n1_ n2_; (try clear hb); (try clear hb2); (try clear hk); (try clear hi); have hcz54_0 := bc2_0 BK1002; have hcz54_1 := bc2_1 BK1002; have hfz54_0 := bf_ BK1002 0; have hfz54_1 := bf_ BK1002 1))
  refine bodyPost_ret (results_cell_row rfl _ _ gb1002 28 #[.slice none 0 0, .int .i64 0] (0, 0) _ rfl (by (with_reducible repeat (first | refine blk_drewN ?_ _ | refine blk_drew ?_ | refine blk_alloc ?_ _)); refine blk_put (cs := #[.slice none 0 0, .int .i64 0]) ?_ 1 _ rfl; (with_reducible repeat (first | refine blk_drewN ?_ _ | refine blk_drew ?_ | refine blk_alloc ?_ _)); refine blk_put (cs := #[.slice none 0 0, .int .i64 0]) ?_ 0 _ rfl; (with_reducible repeat (first | refine blk_drewN ?_ _ | refine blk_drew ?_ | refine blk_alloc ?_ _)); exact BK1002.out) Try.underlying28 rfl (by kernel_rfl)) rfl ?_
  exact ⟨_, rf_, ni_, bg_⟩

end Go.Proofs.Ytjapdjkckhcelaa.Pr
