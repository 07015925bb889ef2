/- Functions of the given program as plain Lean functions, and that the machine's calls come to them; written by a program of this session; no condition but those that each theorem states. -/
import Derived.Test.YtnnlgbpfdnaalaaWRepsOne
import Derived.Test.YtnnlgbpfdnaalaaPrx0
import Derived.Test.YtnnlgbpfdnaalaaPrxg6854cn1
import Derived.Test.YtnnlgbpfdnaalaaPrxg7b2f3n1
import Derived.Test.YtnnlgbpfdnaalaaPrxgd1321n1
namespace Go.Proofs.Ytnnlgbpfdnaalaa.Pr
open Go.RowKit Go.Proofs.YtnnlgbpfdnaalaaW.PrintWords Go.Proofs.YtnnlgbpfdnaalaaW.PrintLast Go.Proofs.YtnnlgbpfdnaalaaW.PrintMore
attribute [local go_sem] max2_int min2_int max_two min_two max_three min_three max_four min_four   -- for this text's walks alone
set_option linter.unusedVariables false
set_option linter.unusedSimpArgs false

/-! ### laws_toRelabel: function 33 -/
def laws_toRelabel.f (k : Nat) (a0_0 : Int) (l0_1 : List ByteArray) (a0_2 : ByteArray) (a0_3 : ByteArray) (a0_4 : ByteArray) (a0_5 : ByteArray) (a0_6 : Int) : Option (Int × List ByteArray × ByteArray × ByteArray × ByteArray × ByteArray × Int) := (laws_toStringS.f k l0_1).bind fun t1004 => (some (a0_0, t1004, a0_2, a0_3, a0_4, a0_5, a0_6))
theorem laws_toRelabel.mono : ∀ a0 a1 a2 a3 a4 a5 a6 k, LeO (laws_toRelabel.f k a0 a1 a2 a3 a4 a5 a6) (laws_toRelabel.f (k + 1) a0 a1 a2 a3 a4 a5 a6) := by
 intro a0 a1 a2 a3 a4 a5 a6 k
 unfold laws_toRelabel.f
 repeat' first
   | with_reducible first | exact laws_toStringS.mono _ _ | exact LeO.refl _ | exact LeO.none _ | refine LeO.ite ?_ ?_ | refine LeO.bind ?_ (fun _ => ?_)
   | exact laws_toStringS.mono _ _
   | exact LeO.none _
   | refine LeO.ite ?_ ?_
   | refine LeO.bind ?_ (fun _ => ?_)
set_option maxHeartbeats 8000000 in
set_option maxRecDepth 100000 in
theorem laws_toRelabel.calls (k : Nat) (a0_0 : Int) (A0_1 : Option Addr) (c0_1 : Nat) (l0_1 : List ByteArray) (a0_2 : ByteArray) (a0_3 : ByteArray) (a0_4 : ByteArray) (a0_5 : ByteArray) (a0_6 : Int) (r1 : Int) (r2 : List ByteArray) (r3 : ByteArray) (r4 : ByteArray) (r5 : ByteArray) (r6 : ByteArray) (r7 : Int) (w : World) (hr0_1 : Kd.C Kd.string w A0_1 l0_1.length l0_1) (hc0_1 : l0_1.length ≤ c0_1) (h : laws_toRelabel.f k a0_0 l0_1 a0_2 a0_3 a0_4 a0_5 a0_6 = some (r1, r2, r3, r4, r5, r6, r7)) :
  Calls Try.prog 33 #[.agg #[.int .i64 a0_0, .slice A0_1 l0_1.length c0_1, .string a0_2, .string a0_3, .string a0_4, .string a0_5, .int .i64 a0_6]] w fun e w' => ∃ v1_ : Value, e = .returned (.agg #[.int .i64 r1, v1_, .string r3, .string r4, .string r5, .string r6, .int .i64 r7]) ∧ Kd.R Kd.string 9 w' w.heap.size (fun _ => True) v1_ r2 ∧ Below w.heap.size w w' := by
 have hu39 := Try.underlying39
 have hu42 := Try.underlying42
 have HR0_1 := am_ hr0_1
 have HC0_1 := am_ hc0_1
 clear hr0_1 hc0_1
 have HB := am_ (Below.refl w.heap.size w)
 have H : ((laws_toStringS.f k l0_1).bind fun t1004 => (some (a0_0, t1004, a0_2, a0_3, a0_4, a0_5, a0_6))) = some (r1, r2, r3, r4, r5, r6, r7) := h
 clear h
 replace H := Option.bind_eq_some_iff.mp H
 obtain ⟨t1004, A20, H⟩ := H
 replace H : (some (a0_0, t1004, a0_2, a0_3, a0_4, a0_5, a0_6)) = some (r1, r2, r3, r4, r5, r6, r7) := H
 have A2 := am_ A20
 clear A20
 simp only [Option.some.injEq, Prod.mk.injEq] at H
 obtain ⟨rfl, rfl, rfl, rfl, rfl, rfl, rfl⟩ := H
 go_enter Try.func33, Try.ntmps33
 go_wp2_with (first | ((with_reducible refine gate_dst (N := 1) rfl ?_); refine box_event ?hg (N := 1) ?hd (cs := #[.int .i64 a0_0, .slice A0_1 l0_1.length c0_1, .string a0_2, .string a0_3, .string a0_4, .string a0_5, .int .i64 a0_6]) (t := 39) ?hr ?_; (case hd => rfl); (case hg => rfl); (case hr => first | (go_simp; done) | (go_simp; rfl)); intro gb1001 hg w3 hbox hb; have n0_ := am_ (below_step bl_ hb); have n1_ := am_ (hbox); have n2_ := am_ (gs_ hg : w.heap.size ≤ gb1001); have n3_ := n2_; clear HB; have HB := n0_; have BK1001 := n1_; have GW1001 := n2_; have GE1001 := n3_; clear n0_ n1_ n2_ n3_; clear hb hbox hg) | ((with_reducible refine gate_dst (N := 2) rfl ?_); refine box_event ?hg (N := 2) ?hd (cs := #[.int .i64 0, .slice none 0 0, .string (⟨#[]⟩ : ByteArray), .string (⟨#[]⟩ : ByteArray), .string (⟨#[]⟩ : ByteArray), .string (⟨#[]⟩ : ByteArray), .int .i64 0]) (t := 42) ?hr ?_; (case hd => rfl); (case hg => rfl); (case hr => first | (go_simp; done) | (go_simp; rfl)); intro gb1002 hg w4 hbox hb; have n0_ := am_ (blk_below (g := gb1001) (vk_ BK1001) hb); have n1_ := am_ (below_step bg_ hb); have n2_ := am_ (hbox); have n3_ := am_ (gg_ hg : w.heap.size ≤ gb1002); have n4_ := n3_; have n5_ := am_ ((by rw [hg]; exact Nat.ne_of_lt (blk_lt (g := gb1001) (o := .cells #[.int .i64 a0_0, .slice A0_1 l0_1.length c0_1, .string a0_2, .string a0_3, .string a0_4, .string a0_5, .int .i64 a0_6] 39 (0, 0)) (vk_ BK1001)) : gb1001 ≠ gb1002)); have n6_ := am_ ((by rw [hg]; exact Nat.ne_of_gt (blk_lt (g := gb1001) (o := .cells #[.int .i64 a0_0, .slice A0_1 l0_1.length c0_1, .string a0_2, .string a0_3, .string a0_4, .string a0_5, .int .i64 a0_6] 39 (0, 0)) (vk_ BK1001)) : gb1002 ≠ gb1001)); clear BK1001; clear HB; have BK1001 := n0_; have HB := n1_; have BK1002 := n2_; have GW1002 := n3_; have GE1002 := n4_; have NB1001_1002 := n5_; have NB1002_1001 := n6_; clear n0_ n1_ n2_ n3_ n4_ n5_ n6_; clear hb hbox hg) | ((with_reducible refine gate_dst (N := 3) rfl ?_); refine box_event ?hg (N := 3) ?hd (cs := #[.int .i64 0, .slice none 0 0, .string (⟨#[]⟩ : ByteArray), .string (⟨#[]⟩ : ByteArray), .string (⟨#[]⟩ : ByteArray), .string (⟨#[]⟩ : ByteArray), .int .i64 0]) (t := 42) ?hr ?_; (case hd => rfl); (case hg => rfl); (case hr => first | (go_simp; done) | (go_simp; rfl)); intro gb1003 hg w5 hbox hb; have n0_ := am_ (blk_below (g := gb1001) (vk_ BK1001) hb); have n1_ := am_ (blk_below (g := gb1002) (vk_ BK1002) hb); have n2_ := am_ (below_step bg_ hb); have n3_ := am_ (hbox); have n4_ := am_ (gg_ hg : w.heap.size ≤ gb1003); have n5_ := n4_; have n6_ := am_ ((by rw [hg]; exact Nat.ne_of_lt (blk_lt (g := gb1001) (o := .cells #[.int .i64 a0_0, .slice A0_1 l0_1.length c0_1, .string a0_2, .string a0_3, .string a0_4, .string a0_5, .int .i64 a0_6] 39 (0, 0)) (vk_ BK1001)) : gb1001 ≠ gb1003)); have n7_ := am_ ((by rw [hg]; exact Nat.ne_of_gt (blk_lt (g := gb1001) (o := .cells #[.int .i64 a0_0, .slice A0_1 l0_1.length c0_1, .string a0_2, .string a0_3, .string a0_4, .string a0_5, .int .i64 a0_6] 39 (0, 0)) (vk_ BK1001)) : gb1003 ≠ gb1001)); have n8_ := am_ ((by rw [hg]; exact Nat.ne_of_lt (blk_lt (g := gb1002) (o := .cells #[.int .i64 0, .slice none 0 0, .string (⟨#[]⟩ : ByteArray), .string (⟨#[]⟩ : ByteArray), .string (⟨#[]⟩ : ByteArray), .string (⟨#[]⟩ : ByteArray), .int .i64 0] 42 (0, 0)) (vk_ BK1002)) : gb1002 ≠ gb1003)); have n9_ := am_ ((by rw [hg]; exact Nat.ne_of_gt (blk_lt (g := gb1002) (o := .cells #[.int .i64 0, .slice none 0 0, .string (⟨#[]⟩ : ByteArray), .string (⟨#[]⟩ : ByteArray), .string (⟨#[]⟩ : ByteArray), .string (⟨#[]⟩ : ByteArray), .int .i64 0] 42 (0, 0)) (vk_ BK1002)) : gb1003 ≠ gb1002)); clear BK1001; clear BK1002; clear HB; have BK1001 := n0_; have BK1002 := n1_; have HB := n2_; have BK1003 := n3_; have GW1003 := n4_; have GE1003 := n5_; have NB1001_1003 := n6_; have NB1003_1001 := n7_; have NB1002_1003 := n8_; have NB1003_1002 := n9_; clear n0_ n1_ n2_ n3_ n4_ n5_ n6_ n7_ n8_ n9_; clear hb hbox hg; have hnb6 := NB1001_1002.out; have hnc6 := NB1002_1001.out; have hnb7 := NB1001_1003.out; have hnc7 := NB1003_1001.out; have hcz8_0 : w5.cell? ⟨gb1001, 0, none⟩ = some (.int .i64 a0_0) := (blk_cell BK1001.out 0).trans rfl; have hcz8_1 : w5.cell? ⟨gb1001, 1, none⟩ = some (.slice A0_1 l0_1.length c0_1) := (blk_cell BK1001.out 1).trans rfl; have hcz8_2 : w5.cell? ⟨gb1001, 2, none⟩ = some (.string a0_2) := (blk_cell BK1001.out 2).trans rfl; have hcz8_3 : w5.cell? ⟨gb1001, 3, none⟩ = some (.string a0_3) := (blk_cell BK1001.out 3).trans rfl; have hcz8_4 : w5.cell? ⟨gb1001, 4, none⟩ = some (.string a0_4) := (blk_cell BK1001.out 4).trans rfl; have hcz8_5 : w5.cell? ⟨gb1001, 5, none⟩ = some (.string a0_5) := (blk_cell BK1001.out 5).trans rfl; have hcz8_6 : w5.cell? ⟨gb1001, 6, none⟩ = some (.int .i64 a0_6) := (blk_cell BK1001.out 6).trans rfl; have hfz8_0 := bf_ BK1001 0; have hfz8_1 := bf_ BK1001 1; have hfz8_2 := bf_ BK1001 2; have hfz8_3 := bf_ BK1001 3; have hfz8_4 := bf_ BK1001 4; have hfz8_5 := bf_ BK1001 5; have hfz8_6 := bf_ BK1001 6; have hnb9 := NB1003_1002.out; have hnc9 := NB1002_1003.out; have hcz10_0 : w5.cell? ⟨gb1003, 0, none⟩ = some (.int .i64 0) := (blk_cell BK1003.out 0).trans rfl; have hcz10_1 : w5.cell? ⟨gb1003, 1, none⟩ = some (.slice none 0 0) := (blk_cell BK1003.out 1).trans rfl; have hcz10_2 : w5.cell? ⟨gb1003, 2, none⟩ = some (.string (⟨#[]⟩ : ByteArray)) := (blk_cell BK1003.out 2).trans rfl; have hcz10_3 : w5.cell? ⟨gb1003, 3, none⟩ = some (.string (⟨#[]⟩ : ByteArray)) := (blk_cell BK1003.out 3).trans rfl; have hcz10_4 : w5.cell? ⟨gb1003, 4, none⟩ = some (.string (⟨#[]⟩ : ByteArray)) := (blk_cell BK1003.out 4).trans rfl; have hcz10_5 : w5.cell? ⟨gb1003, 5, none⟩ = some (.string (⟨#[]⟩ : ByteArray)) := (blk_cell BK1003.out 5).trans rfl; have hcz10_6 : w5.cell? ⟨gb1003, 6, none⟩ = some (.int .i64 0) := (blk_cell BK1003.out 6).trans rfl; have hfz10_0 := bf_ BK1003 0; have hfz10_1 := bf_ BK1003 1; have hfz10_2 := bf_ BK1003 2; have hfz10_3 := bf_ BK1003 3; have hfz10_4 := bf_ BK1003 4; have hfz10_5 := bf_ BK1003 5; have hfz10_6 := bf_ BK1003 6) | ((with_reducible refine gate_callee (f := 17) rfl ?_); refine goesL_ (some 9) rfl rfl Try.func17 (by kernel_rfl) rfl #[.slice A0_1 l0_1.length c0_1] rfl ag_ ?_; (with_reducible refine (laws_toStringS.calls k _ _ l0_1 t1004 _ ?side1 ?side2 A2.out).mono ?_); (case side1 => exact Kd.C_below HR0_1.out bg_); (case side2 => exact HC0_1.out); rintro e w11 ⟨v1005, rfl, ho0, hb⟩; refine ⟨_, rfl, ?_⟩; have n0_ := am_ (Kd.R_lower ho0 (below_size bg_)); have n1_ := am_ (blk_below (g := gb1001) (o := .cells #[.int .i64 a0_0, .slice A0_1 l0_1.length c0_1, .string a0_2, .string a0_3, .string a0_4, .string a0_5, .int .i64 a0_6] 39 (0, 0)) (by (with_reducible repeat (first | refine blk_drewN ?_ _ | refine blk_drew ?_ | refine blk_alloc ?_ _)); refine blk_far ?_ NB1001_1003.out _; (with_reducible repeat (first | refine blk_drewN ?_ _ | refine blk_drew ?_ | refine blk_alloc ?_ _)); exact BK1001.out) hb); have n2_ := am_ (blk_below (g := gb1002) (o := .cells #[.int .i64 0, .slice none 0 0, .string (⟨#[]⟩ : ByteArray), .string (⟨#[]⟩ : ByteArray), .string (⟨#[]⟩ : ByteArray), .string (⟨#[]⟩ : ByteArray), .int .i64 0] 42 (0, 0)) (by (with_reducible repeat (first | refine blk_drewN ?_ _ | refine blk_drew ?_ | refine blk_alloc ?_ _)); refine blk_far ?_ NB1002_1003.out _; (with_reducible repeat (first | refine blk_drewN ?_ _ | refine blk_drew ?_ | refine blk_alloc ?_ _)); exact BK1002.out) hb); have n3_ := am_ (blk_below (g := gb1003) (o := .cells #[.int .i64 a0_0, .slice none 0 0, .string (⟨#[]⟩ : ByteArray), .string (⟨#[]⟩ : ByteArray), .string (⟨#[]⟩ : ByteArray), .string (⟨#[]⟩ : ByteArray), .int .i64 0] 42 (0, 0)) (by (with_reducible repeat (first | refine blk_drewN ?_ _ | refine blk_drew ?_ | refine blk_alloc ?_ _)); refine blk_put (cs := #[.int .i64 0, .slice none 0 0, .string (⟨#[]⟩ : ByteArray), .string (⟨#[]⟩ : ByteArray), .string (⟨#[]⟩ : ByteArray), .string (⟨#[]⟩ : ByteArray), .int .i64 0]) ?_ 0 _ rfl; (with_reducible repeat (first | refine blk_drewN ?_ _ | refine blk_drew ?_ | refine blk_alloc ?_ _)); exact BK1003.out) hb); have n4_ := am_ (below_step bg_ hb); clear BK1001; clear BK1002; clear BK1003; clear HB; have HO1006 := n0_; have BK1001 := n1_; have BK1002 := n2_; have BK1003 := n3_; have HB := n4_; clear n0_ n1_ n2_ n3_ n4_; (try clear hb); (try clear hb2); (try clear hk); (try clear hi); (try clear ho0); obtain ⟨Ao12, co12, eo12⟩ := Kd.R_slice HO1006.out; subst eo12; have hcz13_0 : w11.cell? ⟨gb1003, 0, none⟩ = some (.int .i64 a0_0) := (blk_cell BK1003.out 0).trans rfl; have hcz13_1 : w11.cell? ⟨gb1003, 1, none⟩ = some (.slice none 0 0) := (blk_cell BK1003.out 1).trans rfl; have hcz13_2 : w11.cell? ⟨gb1003, 2, none⟩ = some (.string (⟨#[]⟩ : ByteArray)) := (blk_cell BK1003.out 2).trans rfl; have hcz13_3 : w11.cell? ⟨gb1003, 3, none⟩ = some (.string (⟨#[]⟩ : ByteArray)) := (blk_cell BK1003.out 3).trans rfl; have hcz13_4 : w11.cell? ⟨gb1003, 4, none⟩ = some (.string (⟨#[]⟩ : ByteArray)) := (blk_cell BK1003.out 4).trans rfl; have hcz13_5 : w11.cell? ⟨gb1003, 5, none⟩ = some (.string (⟨#[]⟩ : ByteArray)) := (blk_cell BK1003.out 5).trans rfl; have hcz13_6 : w11.cell? ⟨gb1003, 6, none⟩ = some (.int .i64 0) := (blk_cell BK1003.out 6).trans rfl; have hfz13_0 := bf_ BK1003 0; have hfz13_1 := bf_ BK1003 1; have hfz13_2 := bf_ BK1003 2; have hfz13_3 := bf_ BK1003 3; have hfz13_4 := bf_ BK1003 4; have hfz13_5 := bf_ BK1003 5; have hfz13_6 := bf_ BK1003 6; have hcz14_0 : w11.cell? ⟨gb1001, 0, none⟩ = some (.int .i64 a0_0) := (blk_cell BK1001.out 0).trans rfl; have hcz14_1 : w11.cell? ⟨gb1001, 1, none⟩ = some (.slice A0_1 l0_1.length c0_1) := (blk_cell BK1001.out 1).trans rfl; have hcz14_2 : w11.cell? ⟨gb1001, 2, none⟩ = some (.string a0_2) := (blk_cell BK1001.out 2).trans rfl; have hcz14_3 : w11.cell? ⟨gb1001, 3, none⟩ = some (.string a0_3) := (blk_cell BK1001.out 3).trans rfl; have hcz14_4 : w11.cell? ⟨gb1001, 4, none⟩ = some (.string a0_4) := (blk_cell BK1001.out 4).trans rfl; have hcz14_5 : w11.cell? ⟨gb1001, 5, none⟩ = some (.string a0_5) := (blk_cell BK1001.out 5).trans rfl; have hcz14_6 : w11.cell? ⟨gb1001, 6, none⟩ = some (.int .i64 a0_6) := (blk_cell BK1001.out 6).trans rfl; have hfz14_0 := bf_ BK1001 0; have hfz14_1 := bf_ BK1001 1; have hfz14_2 := bf_ BK1001 2; have hfz14_3 := bf_ BK1001 3; have hfz14_4 := bf_ BK1001 4; have hfz14_5 := bf_ BK1001 5; have hfz14_6 := bf_ BK1001 6; have hcz15_0 : w11.cell? ⟨gb1002, 0, none⟩ = some (.int .i64 0) := (blk_cell BK1002.out 0).trans rfl; have hcz15_1 : w11.cell? ⟨gb1002, 1, none⟩ = some (.slice none 0 0) := (blk_cell BK1002.out 1).trans rfl; have hcz15_2 : w11.cell? ⟨gb1002, 2, none⟩ = some (.string (⟨#[]⟩ : ByteArray)) := (blk_cell BK1002.out 2).trans rfl; have hcz15_3 : w11.cell? ⟨gb1002, 3, none⟩ = some (.string (⟨#[]⟩ : ByteArray)) := (blk_cell BK1002.out 3).trans rfl; have hcz15_4 : w11.cell? ⟨gb1002, 4, none⟩ = some (.string (⟨#[]⟩ : ByteArray)) := (blk_cell BK1002.out 4).trans rfl; have hcz15_5 : w11.cell? ⟨gb1002, 5, none⟩ = some (.string (⟨#[]⟩ : ByteArray)) := (blk_cell BK1002.out 5).trans rfl; have hcz15_6 : w11.cell? ⟨gb1002, 6, none⟩ = some (.int .i64 0) := (blk_cell BK1002.out 6).trans rfl; have hfz15_0 := bf_ BK1002 0; have hfz15_1 := bf_ BK1002 1; have hfz15_2 := bf_ BK1002 2; have hfz15_3 := bf_ BK1002 3; have hfz15_4 := bf_ BK1002 4; have hfz15_5 := bf_ BK1002 5; have hfz15_6 := bf_ BK1002 6))
 refine bodyPost_ret (results_cell_row rfl _ _ gb1002 42 #[.int .i64 a0_0, .slice Ao12 t1004.length co12, .string a0_2, .string a0_3, .string a0_4, .string a0_5, .int .i64 a0_6] (0, 0) _ rfl (by (with_reducible repeat (first | refine blk_drewN ?_ _ | refine blk_drew ?_ | refine blk_alloc ?_ _)); refine blk_put (cs := #[.int .i64 a0_0, .slice Ao12 t1004.length co12, .string a0_2, .string a0_3, .string a0_4, .string a0_5, .int .i64 0]) ?_ 6 _ rfl; (with_reducible repeat (first | refine blk_drewN ?_ _ | refine blk_drew ?_ | refine blk_alloc ?_ _)); refine blk_put (cs := #[.int .i64 a0_0, .slice Ao12 t1004.length co12, .string a0_2, .string a0_3, .string a0_4, .string (⟨#[]⟩ : ByteArray), .int .i64 0]) ?_ 5 _ rfl; (with_reducible repeat (first | refine blk_drewN ?_ _ | refine blk_drew ?_ | refine blk_alloc ?_ _)); refine blk_put (cs := #[.int .i64 a0_0, .slice Ao12 t1004.length co12, .string a0_2, .string a0_3, .string (⟨#[]⟩ : ByteArray), .string (⟨#[]⟩ : ByteArray), .int .i64 0]) ?_ 4 _ rfl; (with_reducible repeat (first | refine blk_drewN ?_ _ | refine blk_drew ?_ | refine blk_alloc ?_ _)); refine blk_put (cs := #[.int .i64 a0_0, .slice Ao12 t1004.length co12, .string a0_2, .string (⟨#[]⟩ : ByteArray), .string (⟨#[]⟩ : ByteArray), .string (⟨#[]⟩ : ByteArray), .int .i64 0]) ?_ 3 _ rfl; (with_reducible repeat (first | refine blk_drewN ?_ _ | refine blk_drew ?_ | refine blk_alloc ?_ _)); refine blk_put (cs := #[.int .i64 a0_0, .slice Ao12 t1004.length co12, .string (⟨#[]⟩ : ByteArray), .string (⟨#[]⟩ : ByteArray), .string (⟨#[]⟩ : ByteArray), .string (⟨#[]⟩ : ByteArray), .int .i64 0]) ?_ 2 _ rfl; (with_reducible repeat (first | refine blk_drewN ?_ _ | refine blk_drew ?_ | refine blk_alloc ?_ _)); refine blk_put (cs := #[.int .i64 a0_0, .slice none 0 0, .string (⟨#[]⟩ : ByteArray), .string (⟨#[]⟩ : ByteArray), .string (⟨#[]⟩ : ByteArray), .string (⟨#[]⟩ : ByteArray), .int .i64 0]) ?_ 1 _ rfl; (with_reducible repeat (first | refine blk_drewN ?_ _ | refine blk_drew ?_ | refine blk_alloc ?_ _)); refine blk_put (cs := #[.int .i64 0, .slice none 0 0, .string (⟨#[]⟩ : ByteArray), .string (⟨#[]⟩ : ByteArray), .string (⟨#[]⟩ : ByteArray), .string (⟨#[]⟩ : ByteArray), .int .i64 0]) ?_ 0 _ rfl; (with_reducible repeat (first | refine blk_drewN ?_ _ | refine blk_drew ?_ | refine blk_alloc ?_ _)); refine blk_far ?_ NB1002_1003.out _; (with_reducible repeat (first | refine blk_drewN ?_ _ | refine blk_drew ?_ | refine blk_alloc ?_ _)); refine blk_far ?_ NB1002_1003.out _; (with_reducible repeat (first | refine blk_drewN ?_ _ | refine blk_drew ?_ | refine blk_alloc ?_ _)); refine blk_far ?_ NB1002_1003.out _; (with_reducible repeat (first | refine blk_drewN ?_ _ | refine blk_drew ?_ | refine blk_alloc ?_ _)); refine blk_far ?_ NB1002_1003.out _; (with_reducible repeat (first | refine blk_drewN ?_ _ | refine blk_drew ?_ | refine blk_alloc ?_ _)); refine blk_far ?_ NB1002_1003.out _; (with_reducible repeat (first | refine blk_drewN ?_ _ | refine blk_drew ?_ | refine blk_alloc ?_ _)); refine blk_far ?_ NB1002_1003.out _; (with_reducible repeat (first | refine blk_drewN ?_ _ | refine blk_drew ?_ | refine blk_alloc ?_ _)); exact BK1002.out) Try.underlying42 rfl (by kernel_rfl)) rfl ?_
 exact ⟨_, rf_, by (with_reducible repeat (first | apply Kd.R_alloc | apply Kd.R_drewN | apply Kd.R_drew)); exact Kd.R_mono (Kd.R_far (p := ⟨gb1002, 6, none⟩) (Kd.R_far (p := ⟨gb1002, 5, none⟩) (Kd.R_far (p := ⟨gb1002, 4, none⟩) (Kd.R_far (p := ⟨gb1002, 3, none⟩) (Kd.R_far (p := ⟨gb1002, 2, none⟩) (Kd.R_far (p := ⟨gb1002, 1, none⟩) (Kd.R_far (p := ⟨gb1002, 0, none⟩) (Kd.R_far (p := ⟨gb1003, 6, none⟩) (Kd.R_far (p := ⟨gb1003, 5, none⟩) (Kd.R_far (p := ⟨gb1003, 4, none⟩) (Kd.R_far (p := ⟨gb1003, 3, none⟩) (Kd.R_far (p := ⟨gb1003, 2, none⟩) (Kd.R_far (p := ⟨gb1003, 1, none⟩) (Kd.R_types (Kd.R_types HO1006.out BK1003.out (by decide)) BK1002.out (by decide)) (fun _ hk => hk.1.2) (.slice Ao12 t1004.length co12)) (fun _ hk => hk.1.2) (.string a0_2)) (fun _ hk => hk.1.2) (.string a0_3)) (fun _ hk => hk.1.2) (.string a0_4)) (fun _ hk => hk.1.2) (.string a0_5)) (fun _ hk => hk.1.2) (.int .i64 a0_6)) (fun _ hk => hk.2) (.int .i64 a0_0)) (fun _ hk => hk.2) (.slice Ao12 t1004.length co12)) (fun _ hk => hk.2) (.string a0_2)) (fun _ hk => hk.2) (.string a0_3)) (fun _ hk => hk.2) (.string a0_4)) (fun _ hk => hk.2) (.string a0_5)) (fun _ hk => hk.2) (.int .i64 a0_6)) (fun _ hk => trivial), bg_⟩

/-! ### slices_IndexFunc_string_string: function 122 -/
def slices_IndexFunc_string_string.l0 (P : ByteArray → Option Bool) (l0 : List ByteArray) : Nat → Int → Option Int
 | 0, _ => none
 | k + 1, x8 => if x8 < (l0.length : Int) then (if 0 ≤ x8 then ((P (rdOf ByteArray.empty l0 x8)).bind fun b => if b = true then some x8 else slices_IndexFunc_string_string.l0 P l0 k (wrap64 (x8 + 1))) else none) else some (-1)
def slices_IndexFunc_string_string.f (k : Nat) (P : ByteArray → Option Bool) (l0 : List ByteArray) : Option Int := slices_IndexFunc_string_string.l0 P l0 k 0
theorem slices_IndexFunc_string_string.mono_l (P P' : ByteArray → Option Bool) (hP : ∀ x, LeO (P x) (P' x)) (l0 : List ByteArray) : ∀ k x8, LeO (slices_IndexFunc_string_string.l0 P l0 k x8) (slices_IndexFunc_string_string.l0 P' l0 (k + 1) x8)
 | 0, _ => LeO.none _
 | k + 1, x8 => by
  have ih := slices_IndexFunc_string_string.mono_l P P' hP l0 k
  unfold slices_IndexFunc_string_string.l0
  exact LeO.ite (LeO.ite (LeO.bind (hP _) (fun _ => LeO.ite (LeO.refl _) (ih _))) (LeO.none _)) (LeO.refl _)
theorem slices_IndexFunc_string_string.mono (P P' : ByteArray → Option Bool) (hP : ∀ x, LeO (P x) (P' x)) (l0 : List ByteArray) (k : Nat) : LeO (slices_IndexFunc_string_string.f k P l0) (slices_IndexFunc_string_string.f (k + 1) P' l0) := slices_IndexFunc_string_string.mono_l P P' hP l0 k _
set_option maxHeartbeats 4000000 in
set_option maxRecDepth 100000 in
theorem slices_IndexFunc_string_string.calls (k : Nat) (P : ByteArray → Option Bool) (g : Nat) (vf : Value) (lb : Array Value) (hv : (vf = .func (.func g) #[] lb)) (eg : ∀ args w, (callFunc g args).run Try.prog w = .ok (.enter g args) w) (A0 : Option Addr) (c0 : Nat) (l0 : List ByteArray) (r : Int) (w : World) (hr0 : Kd.C Kd.string w A0 l0.length l0) (hc0 : l0.length ≤ c0)
  (hP : ∀ (W : World) (x : ByteArray) (b : Bool), Below w.heap.size w W → P x = some b → Calls Try.prog g (#[(.string (x))] ++ lb) W fun e w' => e = .returned (.bool b) ∧ Below W.heap.size W w') (h : slices_IndexFunc_string_string.f k P l0 = some r) :
  Calls Try.prog 122 #[.slice A0 l0.length c0, vf] w fun e w' => e = .returned (.int .i64 r) ∧ Below w.heap.size w w' := by
 subst hv
 have hu := Try.underlying9
 have HR0 := am_ hr0
 have HC0 := am_ hc0
 clear hr0 hc0
 have HB := am_ (Below.refl w.heap.size w)
 have hP' := am_ hP
 clear hP
 have H' := am_ (show slices_IndexFunc_string_string.l0 P l0 k 0 = some r from h)
 clear h
 go_enter Try.func122, Try.ntmps122
 go_wp2
 go_loopg [8] k (fun kq v8 w' => ∃ (x8 : Int), v8 = .int .i64 x8 ∧ Aside0 (slices_IndexFunc_string_string.l0 P l0 kq x8 = some r) ∧ Aside0 (Below w.heap.size w w'))
 case atStart => exact ⟨0, rs_, H', ⟨bl_⟩⟩
 case round =>
  clear H'
  obtain ⟨x8, rfl, HA, HB⟩ := hrel
  cases gk with
  | zero => exact absurd HA.out (by simp [slices_IndexFunc_string_string.l0])
  | succ k1 =>
   have H := HA.out
   clear HA
   simp only [slices_IndexFunc_string_string.l0] at H
   by_cases c4 : x8 < (l0.length : Int)
   ·rw [if_pos c4] at H
    have c4b0 : decide (x8 < (l0.length : Int)) = true := decide_eq_true c4
    by_cases c5 : 0 ≤ x8
    ·rw [if_pos c5] at H
     have c5b0 : decide (0 ≤ x8) = true := decide_eq_true c5
     obtain ⟨b, hb0, H⟩ := Option.bind_eq_some_iff.mp H
     have HP0 := am_ hb0
     clear hb0
     obtain ⟨ad, e_, hx_0⟩ := Kd.at_string HR0.out x8 c5 c4
     cases e_
     replace hx_0 := kp_ HB hx_0
     have p_ := eq_true c5
     have q_ := eq_true c4
     clear c4 c5
     cases b with
     | true =>
      rw [if_pos rfl] at H
      obtain rfl := Option.some.inj H
      go_wp2_with (first | ((with_reducible refine Calls.mono (hP'.out _ (rdOf ByteArray.empty l0 x8) true HB.out HP0.out) ?_); rintro e w10 ⟨rfl, hb⟩; have n2_ := am_ (below_step HB.out hb); clear HB; have HB := n2_; clear n2_ hb))
      go_ret
      exact ⟨rf_, bl_⟩
     | false =>
      rw [if_neg (show ¬ (false = true) by decide)] at H
      have H' := am_ H
      clear H
      go_wp2_with (first | ((with_reducible refine Calls.mono (hP'.out _ (rdOf ByteArray.empty l0 x8) false HB.out HP0.out) ?_); rintro e w10 ⟨rfl, hb⟩; have n2_ := am_ (below_step HB.out hb); clear HB; have HB := n2_; clear n2_ hb))
      go_roundg k1
      case measure => omega
      case rel => exact ⟨(wrap64 (x8 + 1)), rs_, H', ⟨bl_⟩⟩
    ·rw [if_neg c5] at H
     exact absurd H (by simp)
   ·rw [if_neg c4] at H
    have c4b0 : decide (x8 < (l0.length : Int)) = false := decide_eq_false c4
    clear c4
    obtain rfl := Option.some.inj H
    go_wp2
    go_ret
    exact ⟨rf_, bl_⟩

/-! ### slices_ContainsFunc_string_string: function 81 -/
def slices_ContainsFunc_string_string.f (k : Nat) (P : ByteArray → Option Bool) (l0 : List ByteArray) : Option Bool := (slices_IndexFunc_string_string.f k P l0).bind fun j => some (decide (0 ≤ j))
theorem slices_ContainsFunc_string_string.mono (P P' : ByteArray → Option Bool) (hP : ∀ x, LeO (P x) (P' x)) (l0 : List ByteArray) (k : Nat) : LeO (slices_ContainsFunc_string_string.f k P l0) (slices_ContainsFunc_string_string.f (k + 1) P' l0) := LeO.bind (slices_IndexFunc_string_string.mono P P' hP l0 k) (fun _ => LeO.refl _)
set_option maxHeartbeats 4000000 in
set_option maxRecDepth 100000 in
theorem slices_ContainsFunc_string_string.calls (k : Nat) (P : ByteArray → Option Bool) (g : Nat) (vf : Value) (lb : Array Value) (hv : vf = .func (.func g) #[] lb) (eg : ∀ args w, (callFunc g args).run Try.prog w = .ok (.enter g args) w) (A0 : Option Addr) (c0 : Nat) (l0 : List ByteArray) (r : Bool) (w : World) (hr0 : Kd.C Kd.string w A0 l0.length l0) (hc0 : l0.length ≤ c0)
  (hP : ∀ (W : World) (x : ByteArray) (b : Bool), Below w.heap.size w W → P x = some b → Calls Try.prog g (#[(.string (x))] ++ lb) W fun e w' => e = .returned (.bool b) ∧ Below W.heap.size W w') (h : slices_ContainsFunc_string_string.f k P l0 = some r) :
  Calls Try.prog 81 #[.slice A0 l0.length c0, vf] w fun e w' => e = .returned (.bool r) ∧ Below w.heap.size w w' := by
 unfold slices_ContainsFunc_string_string.f at h
 obtain ⟨j, hj, h⟩ := Option.bind_eq_some_iff.mp h
 obtain rfl := Option.some.inj h
 have hx := am_ (slices_IndexFunc_string_string.calls k P g vf lb hv eg A0 c0 l0 j w hr0 hc0 hP hj)
 clear hr0 hc0 hP h hj eg
 subst hv
 go_enter Try.func81, Try.ntmps81
 go_wp2_with (first | (go_at_call 122; refine hx.out.mono ?_; rintro e w1 ⟨rfl, hb⟩))
 go_ret
 exact ⟨rfl, hb⟩

/-! ### impl_GoodRelabel_1: function 82 -/
def impl_GoodRelabel_1.f (k : Nat) (a0 : ByteArray) : Option (Bool) := (impl_isName.f k a0).bind fun t1001 => (some (!t1001))
theorem impl_GoodRelabel_1.mono : ∀ a0 k, LeO (impl_GoodRelabel_1.f k a0) (impl_GoodRelabel_1.f (k + 1) a0) := by
 intro a0 k
 unfold impl_GoodRelabel_1.f
 repeat' first
   | with_reducible first | exact impl_isName.mono _ _ | exact LeO.refl _ | exact LeO.none _ | refine LeO.ite ?_ ?_ | refine LeO.bind ?_ (fun _ => ?_)
   | exact impl_isName.mono _ _
   | exact LeO.none _
   | refine LeO.ite ?_ ?_
   | refine LeO.bind ?_ (fun _ => ?_)
set_option maxHeartbeats 8000000 in
set_option maxRecDepth 100000 in
theorem impl_GoodRelabel_1.calls (k : Nat) (a0 : ByteArray) (r : Bool) (w : World) (h : impl_GoodRelabel_1.f k a0 = some r) :
  Calls Try.prog 82 #[.string a0] w fun e w' => e = .returned (.bool r) ∧ Drawn0 w w' := by
 have H : ((impl_isName.f k a0).bind fun t1001 => (some (!t1001))) = some r := h
 clear h
 replace H := Option.bind_eq_some_iff.mp H
 obtain ⟨t1001, A20, H⟩ := H
 replace H : (some (!t1001)) = some r := H
 have A2 := am_ A20
 clear A20
 obtain rfl := Option.some.inj H
 go_enter Try.func82, Try.ntmps82
 go_wp2_with (first | ((with_reducible refine gate_callee (f := 83) rfl ?_); refine goesL_ (some 4) rfl rfl Try.func83 (by kernel_rfl) rfl #[.string a0] rfl ag_ ?_; (with_reducible refine (impl_isName.calls k a0 t1001 _ A2.out).mono ?_); rintro e w' ⟨rfl, ⟨nd, rfl⟩⟩; refine ⟨_, rfl, ?_⟩))
 go_ret
 exact ⟨by first | rfl | (simp; done) | (simp [*]; done), by repeat (first | exact Drawn0.refl _ | apply Drawn0.step)⟩

/-! ### slices_Index_int_int: function 147 -/
def slices_Index_int_int.l0 : Nat → List Int → Int → Int → Int → Option (Int)
 | 0, _, _, _, _ => none
 | k + 1, x0, x1, x7, x8 => if x8 < x7 then (if 0 ≤ x8 then (if x8 < (x0.length : Int) then (if x1 = (rd x0 x8) then (some x8) else (slices_Index_int_int.l0 k x0 x1 x7 (wrap64 (x8 + 1)))) else (none)) else (none)) else (some (-1))
def slices_Index_int_int.f (k : Nat) (l0 : List Int) (a1 : Int) : Option (Int) := slices_Index_int_int.l0 k l0 a1 (l0.length : Int) 0
theorem slices_Index_int_int.mono_l : ∀ k, (∀ y0 y1 y2 y3, LeO (slices_Index_int_int.l0 k y0 y1 y2 y3) (slices_Index_int_int.l0 (k + 1) y0 y1 y2 y3))
 | 0 => fun _ _ _ _ r h => by simp [slices_Index_int_int.l0] at h
 | k + 1 => by
  have ih0 := slices_Index_int_int.mono_l k
  ·intro y0 y1 y2 y3
   unfold slices_Index_int_int.l0
   repeat' first
   | with_reducible first | exact ih0 _ _ _ _ | exact LeO.refl _ | exact LeO.none _ | refine LeO.ite ?_ ?_ | refine LeO.bind ?_ (fun _ => ?_)
   | exact ih0 _ _ _ _
   | exact LeO.none _
   | refine LeO.ite ?_ ?_
   | refine LeO.bind ?_ (fun _ => ?_)
theorem slices_Index_int_int.mono : ∀ a0 a1 k, LeO (slices_Index_int_int.f k a0 a1) (slices_Index_int_int.f (k + 1) a0 a1) := by
 intro a0 a1 k
 have ih0 := slices_Index_int_int.mono_l k
 unfold slices_Index_int_int.f
 repeat' first
   | with_reducible first | exact ih0 _ _ _ _ | exact LeO.refl _ | exact LeO.none _ | refine LeO.ite ?_ ?_ | refine LeO.bind ?_ (fun _ => ?_)
   | exact ih0 _ _ _ _
   | exact LeO.none _
   | refine LeO.ite ?_ ?_
   | refine LeO.bind ?_ (fun _ => ?_)
set_option maxHeartbeats 8000000 in
set_option maxRecDepth 100000 in
theorem slices_Index_int_int.calls (k : Nat) (A0 : Option Addr) (c0 : Nat) (l0 : List Int) (a1 : Int) (r : Int) (w : World) (hr0 : Kd.C (Kd.int .i64) w A0 l0.length l0) (hc0 : l0.length ≤ c0) (h : slices_Index_int_int.f k l0 a1 = some r) :
  Calls Try.prog 147 #[.slice A0 l0.length c0, .int .i64 a1] w fun e w' => e = .returned (.int .i64 r) ∧ Drawn0 w w' := by
 have HR0 := am_ hr0
 have HC0 := am_ hc0
 clear hr0 hc0
 have H : (slices_Index_int_int.l0 k l0 a1 (l0.length : Int) 0) = some r := h
 clear h
 have H' := am_ H
 clear H
 go_enter Try.func147, Try.ntmps147
 go_wp2
 go_loopg [8] k (fun kq v8 w' => ∃ (x8_1 : Int), v8 = .int .i64 x8_1 ∧ Aside0 (slices_Index_int_int.l0 kq l0 a1 (l0.length : Int) x8_1 = some r) ∧ Aside0 (kq ≤ k) ∧ Drawn0 w w')
 case atStart => exact ⟨(0), rs_, H', ⟨Nat.le_refl _⟩, by repeat (first | exact Drawn0.refl _ | apply Drawn0.step)⟩
 case round =>
  clear H'
  try clear c1
  try clear p2
  obtain ⟨x8_1, rfl, HA, HK1, ⟨m1, rfl⟩⟩ := hrel
  cases gk with
  | zero => exact absurd HA.out (by simp [slices_Index_int_int.l0])
  | succ k1 =>
   have H := HA.out
   clear HA
   simp only [slices_Index_int_int.l0] at H
   by_cases c3 : x8_1 < (l0.length : Int)
   ·rw [if_pos c3] at H
    have c3b0 : decide (x8_1 < (l0.length : Int)) = true := decide_eq_true c3
    clear c3
    by_cases c4 : 0 ≤ x8_1
    ·rw [if_pos c4] at H
     have c4b0 : decide (0 ≤ x8_1) = true := decide_eq_true c4
     clear c4
     by_cases c5 : x8_1 < (l0.length : Int)
     ·rw [if_pos c5] at H
      have c5b0 : decide (x8_1 < (l0.length : Int)) = true := decide_eq_true c5
      clear c5
      by_cases c6 : a1 = (rd l0 x8_1)
      ·rw [if_pos c6] at H
       have c6b0 : (a1 == (rd l0 x8_1)) = true := beq_iff_eq.mpr c6
       have c6b1 : (a1 != (rd l0 x8_1)) = false := bne_eq_false_iff_eq.mpr c6
       clear c6
       obtain rfl := Option.some.inj H
       have p1001 : 0 ≤ (x8_1 : Int) := od_
       have q1001 : x8_1 < (l0.length : Int) := od_
       obtain ⟨ad1001, e1001, hx1001_0⟩ := Kd.at_int HR0.out x8_1 p1001 q1001
       cases e1001
       replace p1001 := eq_true p1001
       replace q1001 := eq_true q1001
       go_wp2
       go_ret
       exact ⟨by first | rfl | (simp; done) | (simp [*]; done), by repeat (first | exact Drawn0.refl _ | apply Drawn0.step)⟩
      ·rw [if_neg c6] at H
       have c6b0 : (a1 == (rd l0 x8_1)) = false := beq_eq_false_iff_ne.mpr c6
       have c6b1 : (a1 != (rd l0 x8_1)) = true := bne_iff_ne.mpr c6
       have H' := am_ H
       clear H
       have p1001 : 0 ≤ (x8_1 : Int) := od_
       have q1001 : x8_1 < (l0.length : Int) := od_
       obtain ⟨ad1001, e1001, hx1001_0⟩ := Kd.at_int HR0.out x8_1 p1001 q1001
       cases e1001
       replace p1001 := eq_true p1001
       replace q1001 := eq_true q1001
       go_wp2
       go_roundg k1
       case measure => have := HK1.out; omega
       case rel => exact ⟨(wrap64 (x8_1 + 1)), rs_, H', ⟨by have := HK1.out; omega⟩, by repeat (first | exact Drawn0.refl _ | apply Drawn0.step)⟩
     ·rw [if_neg c5] at H
      exact absurd H (by simp)
    ·rw [if_neg c4] at H
     exact absurd H (by simp)
   ·rw [if_neg c3] at H
    have c3b0 : decide (x8_1 < (l0.length : Int)) = false := decide_eq_false c3
    clear c3
    obtain rfl := Option.some.inj H
    go_wp2
    go_ret
    exact ⟨by first | rfl | (simp; done) | (simp [*]; done), by repeat (first | exact Drawn0.refl _ | apply Drawn0.step)⟩

/-! ### slices_Contains_int_int: function 125 -/
def slices_Contains_int_int.f (k : Nat) (l0 : List Int) (a1 : Int) : Option (Bool) := (slices_Index_int_int.f k l0 a1).bind fun t1001 => (some (decide (t1001 ≥ 0)))
theorem slices_Contains_int_int.mono : ∀ a0 a1 k, LeO (slices_Contains_int_int.f k a0 a1) (slices_Contains_int_int.f (k + 1) a0 a1) := by
 intro a0 a1 k
 unfold slices_Contains_int_int.f
 repeat' first
   | with_reducible first | exact slices_Index_int_int.mono _ _ _ | exact LeO.refl _ | exact LeO.none _ | refine LeO.ite ?_ ?_ | refine LeO.bind ?_ (fun _ => ?_)
   | exact slices_Index_int_int.mono _ _ _
   | exact LeO.none _
   | refine LeO.ite ?_ ?_
   | refine LeO.bind ?_ (fun _ => ?_)
set_option maxHeartbeats 8000000 in
set_option maxRecDepth 100000 in
theorem slices_Contains_int_int.calls (k : Nat) (A0 : Option Addr) (c0 : Nat) (l0 : List Int) (a1 : Int) (r : Bool) (w : World) (hr0 : Kd.C (Kd.int .i64) w A0 l0.length l0) (hc0 : l0.length ≤ c0) (h : slices_Contains_int_int.f k l0 a1 = some r) :
  Calls Try.prog 125 #[.slice A0 l0.length c0, .int .i64 a1] w fun e w' => e = .returned (.bool r) ∧ Drawn0 w w' := by
 have HR0 := am_ hr0
 have HC0 := am_ hc0
 clear hr0 hc0
 have H : ((slices_Index_int_int.f k l0 a1).bind fun t1001 => (some (decide (t1001 ≥ 0)))) = some r := h
 clear h
 replace H := Option.bind_eq_some_iff.mp H
 obtain ⟨t1001, A30, H⟩ := H
 replace H : (some (decide (t1001 ≥ 0))) = some r := H
 have A3 := am_ A30
 clear A30
 obtain rfl := Option.some.inj H
 go_enter Try.func125, Try.ntmps125
 go_wp2_with (first | ((with_reducible refine gate_callee (f := 147) rfl ?_); refine goesL_ (some 7) rfl rfl Try.func147 (by kernel_rfl) rfl #[.slice A0 l0.length c0, .int .i64 a1] rfl ag_ ?_; (with_reducible refine (slices_Index_int_int.calls k _ _ l0 a1 t1001 _ ?side1 ?side2 A3.out).mono ?_); (case side1 => repeat (first | exact HR0.out | (with_reducible refine Kd.C_alloc ?_ _) | (with_reducible refine Kd.C_drewN ?_ _) | (with_reducible refine Kd.C_drew ?_))); (case side2 => exact HC0.out); rintro e w' ⟨rfl, ⟨nd, rfl⟩⟩; refine ⟨_, rfl, ?_⟩))
 go_ret
 exact ⟨by first | rfl | (simp; done) | (simp [*]; done), by repeat (first | exact Drawn0.refl _ | apply Drawn0.step)⟩

/-! ### impl_isOne: function 86 -/
def impl_isOne.f (k : Nat) (a0 : Int) (l1 : List Int) : Option (Bool) := (slices_Contains_int_int.f k l1 a0).bind fun t1001 => (some t1001)
theorem impl_isOne.mono : ∀ a0 a1 k, LeO (impl_isOne.f k a0 a1) (impl_isOne.f (k + 1) a0 a1) := by
 intro a0 a1 k
 unfold impl_isOne.f
 repeat' first
   | with_reducible first | exact slices_Contains_int_int.mono _ _ _ | exact LeO.refl _ | exact LeO.none _ | refine LeO.ite ?_ ?_ | refine LeO.bind ?_ (fun _ => ?_)
   | exact slices_Contains_int_int.mono _ _ _
   | exact LeO.none _
   | refine LeO.ite ?_ ?_
   | refine LeO.bind ?_ (fun _ => ?_)
set_option maxHeartbeats 8000000 in
set_option maxRecDepth 100000 in
theorem impl_isOne.calls (k : Nat) (a0 : Int) (A1 : Option Addr) (c1 : Nat) (l1 : List Int) (r : Bool) (w : World) (hr1 : Kd.C (Kd.int .i64) w A1 l1.length l1) (hc1 : l1.length ≤ c1) (h : impl_isOne.f k a0 l1 = some r) :
  Calls Try.prog 86 #[.int .i64 a0, .slice A1 l1.length c1] w fun e w' => e = .returned (.bool r) ∧ Drawn0 w w' := by
 have HR1 := am_ hr1
 have HC1 := am_ hc1
 clear hr1 hc1
 have H : ((slices_Contains_int_int.f k l1 a0).bind fun t1001 => (some t1001)) = some r := h
 clear h
 replace H := Option.bind_eq_some_iff.mp H
 obtain ⟨t1001, A30, H⟩ := H
 replace H : (some t1001) = some r := H
 have A3 := am_ A30
 clear A30
 obtain rfl := Option.some.inj H
 go_enter Try.func86, Try.ntmps86
 go_wp2_with (first | ((with_reducible refine gate_callee (f := 125) rfl ?_); refine goesL_ (some 7) rfl rfl Try.func125 (by kernel_rfl) rfl #[.slice A1 l1.length c1, .int .i64 a0] rfl ag_ ?_; (with_reducible refine (slices_Contains_int_int.calls k _ _ l1 a0 t1001 _ ?side1 ?side2 A3.out).mono ?_); (case side1 => repeat (first | exact HR1.out | (with_reducible refine Kd.C_alloc ?_ _) | (with_reducible refine Kd.C_drewN ?_ _) | (with_reducible refine Kd.C_drew ?_))); (case side2 => exact HC1.out); rintro e w' ⟨rfl, ⟨nd, rfl⟩⟩; refine ⟨_, rfl, ?_⟩))
 go_ret
 exact ⟨by first | rfl | (simp; done) | (simp [*]; done), by repeat (first | exact Drawn0.refl _ | apply Drawn0.step)⟩

/-! ### any_81_82: function 81 -/
def any_81_82.f (k : Nat) (l0 : List ByteArray) : Option Bool := slices_ContainsFunc_string_string.f k (fun x => impl_GoodRelabel_1.f k x) l0
theorem any_81_82.mono : ∀ a0 k, LeO (any_81_82.f k a0) (any_81_82.f (k + 1) a0) := fun a0 k => slices_ContainsFunc_string_string.mono _ _ (fun x => impl_GoodRelabel_1.mono _ _) a0 k
theorem any_81_82.calls (k : Nat) (A0 : Option Addr) (c0 : Nat) (l0 : List ByteArray) (r : Bool) (w : World) (hr0 : Kd.C Kd.string w A0 l0.length l0) (hc0 : l0.length ≤ c0) (h : any_81_82.f k l0 = some r) :
  Calls Try.prog 81 #[.slice A0 l0.length c0, .func (.func 82) #[] #[]] w fun e w' => e = .returned (.bool r) ∧ Below w.heap.size w w' :=
 slices_ContainsFunc_string_string.calls k _ 82 (.func (.func 82) #[] #[]) #[] rfl (enters_ Try.func82 (by kernel_rfl) rfl) A0 c0 l0 r w hr0 hc0 (by
  intro W x b hW hP
  exact (impl_GoodRelabel_1.calls k x b W hP).mono (fun e w' ⟨h1, nd, h2⟩ => ⟨h1, by rw [h2]; exact pw_below_drewN (Below.refl _ _) nd⟩)) h
/-! ### impl_GoodRelabel: function 34 -/
mutual
def impl_GoodRelabel.j0 : Nat → Int → Bool → Int → List ByteArray → ByteArray → ByteArray → ByteArray → ByteArray → Int → Option (Bool)
 | 0, _, _, _, _, _, _, _, _, _ => none
 | k + 1, x3, x34, x1002000, x1002001, x1002002, x1002003, x1002004, x1002005, x1002006 => if x34 = true then (some false) else ((impl_isOne.f k x3 (([3, 4, 8] : List Int))).bind fun t1008 => (if (t1008 != (x1002004.toList != ([] : List UInt8))) = true then (impl_GoodRelabel.j1 k x3 true x1002000 x1002001 x1002002 x1002003 x1002004 x1002005 x1002006) else (if x1002004.toList = ([] : List UInt8) then (impl_GoodRelabel.j1 k x3 false x1002000 x1002001 x1002002 x1002003 x1002004 x1002005 x1002006) else ((impl_isName.f k x1002004).bind fun t1009 => (impl_GoodRelabel.j1 k x3 (!t1009) x1002000 x1002001 x1002002 x1002003 x1002004 x1002005 x1002006)))))
def impl_GoodRelabel.j1 : Nat → Int → Bool → Int → List ByteArray → ByteArray → ByteArray → ByteArray → ByteArray → Int → Option (Bool)
 | 0, _, _, _, _, _, _, _, _, _ => none
 | k + 1, x3, x52, x1002000, x1002001, x1002002, x1002003, x1002004, x1002005, x1002006 => if x52 = true then (some false) else ((impl_isFilling.f k x1002005).bind fun t1010 => (if t1010 = true then (if x1002005.toList = ([] : List UInt8) then (impl_GoodRelabel.j2 k x3 false x1002000 x1002001 x1002002 x1002003 x1002004 x1002005 x1002006) else ((impl_isOne.f k x3 (([3, 5] : List Int))).bind fun t1014 => (impl_GoodRelabel.j2 k x3 (!t1014) x1002000 x1002001 x1002002 x1002003 x1002004 x1002005 x1002006))) else (impl_GoodRelabel.j2 k x3 true x1002000 x1002001 x1002002 x1002003 x1002004 x1002005 x1002006)))
def impl_GoodRelabel.j2 : Nat → Int → Bool → Int → List ByteArray → ByteArray → ByteArray → ByteArray → ByteArray → Int → Option (Bool)
 | 0, _, _, _, _, _, _, _, _, _ => none
 | k + 1, x3, x67, x1002000, x1002001, x1002002, x1002003, x1002004, x1002005, x1002006 => if x67 = true then (some false) else (if x3 = 4 then (if x1002006 < 1 then (impl_GoodRelabel.j3 k x3 true x1002000 x1002001 x1002002 x1002003 x1002004 x1002005 x1002006) else (if x1002006 > 1000 then (impl_GoodRelabel.j3 k x3 true x1002000 x1002001 x1002002 x1002003 x1002004 x1002005 x1002006) else (impl_GoodRelabel.j3 k x3 false x1002000 x1002001 x1002002 x1002003 x1002004 x1002005 x1002006))) else (impl_GoodRelabel.j3 k x3 (x1002006 != 0) x1002000 x1002001 x1002002 x1002003 x1002004 x1002005 x1002006))
def impl_GoodRelabel.j3 : Nat → Int → Bool → Int → List ByteArray → ByteArray → ByteArray → ByteArray → ByteArray → Int → Option (Bool)
 | 0, _, _, _, _, _, _, _, _, _ => none
 | k + 1, x3, x88, x1002000, x1002001, x1002002, x1002003, x1002004, x1002005, x1002006 => if x88 = true then (some false) else ((impl_isOne.f k x3 (([5, 6, 7] : List Int))).bind fun t1018 => (if t1018 = true then (if (x1002001.length : Int) > 0 then (some false) else (if x1002002.toList = ([] : List UInt8) then (if x1002003.toList = ([] : List UInt8) then (some true) else ((impl_isOne.f k x3 (([4, 8] : List Int))).bind fun t1022 => (some (!t1022)))) else (some false))) else (if x1002003.toList = ([] : List UInt8) then (some true) else ((impl_isOne.f k x3 (([4, 8] : List Int))).bind fun t1026 => (some (!t1026))))))
end
def impl_GoodRelabel.f (k : Nat) (a0_0 : Int) (l0_1 : List ByteArray) (a0_2 : ByteArray) (a0_3 : ByteArray) (a0_4 : ByteArray) (a0_5 : ByteArray) (a0_6 : Int) : Option (Bool) := if a0_0 < 1 then (impl_GoodRelabel.j0 k a0_0 true a0_0 l0_1 a0_2 a0_3 a0_4 a0_5 a0_6) else (if a0_0 > 8 then (impl_GoodRelabel.j0 k a0_0 true a0_0 l0_1 a0_2 a0_3 a0_4 a0_5 a0_6) else (if (l0_1.length : Int) > 10 then (impl_GoodRelabel.j0 k a0_0 true a0_0 l0_1 a0_2 a0_3 a0_4 a0_5 a0_6) else ((any_81_82.f k l0_1).bind fun t1002 => (if t1002 = true then (impl_GoodRelabel.j0 k a0_0 true a0_0 l0_1 a0_2 a0_3 a0_4 a0_5 a0_6) else ((impl_printed.f k a0_2 10).bind fun t1003 => (if t1003 = true then ((impl_GoodPattern.f k a0_3).bind fun t1004 => (impl_GoodRelabel.j0 k a0_0 (!t1004) a0_0 l0_1 a0_2 a0_3 a0_4 a0_5 a0_6)) else (impl_GoodRelabel.j0 k a0_0 true a0_0 l0_1 a0_2 a0_3 a0_4 a0_5 a0_6)))))))
theorem impl_GoodRelabel.mono_l : ∀ k, (∀ y0 y1 y2 y3 y4 y5 y6 y7 y8, LeO (impl_GoodRelabel.j0 k y0 y1 y2 y3 y4 y5 y6 y7 y8) (impl_GoodRelabel.j0 (k + 1) y0 y1 y2 y3 y4 y5 y6 y7 y8)) ∧ (∀ y0 y1 y2 y3 y4 y5 y6 y7 y8, LeO (impl_GoodRelabel.j1 k y0 y1 y2 y3 y4 y5 y6 y7 y8) (impl_GoodRelabel.j1 (k + 1) y0 y1 y2 y3 y4 y5 y6 y7 y8)) ∧ (∀ y0 y1 y2 y3 y4 y5 y6 y7 y8, LeO (impl_GoodRelabel.j2 k y0 y1 y2 y3 y4 y5 y6 y7 y8) (impl_GoodRelabel.j2 (k + 1) y0 y1 y2 y3 y4 y5 y6 y7 y8)) ∧ (∀ y0 y1 y2 y3 y4 y5 y6 y7 y8, LeO (impl_GoodRelabel.j3 k y0 y1 y2 y3 y4 y5 y6 y7 y8) (impl_GoodRelabel.j3 (k + 1) y0 y1 y2 y3 y4 y5 y6 y7 y8))
 | 0 => ⟨fun _ _ _ _ _ _ _ _ _ r h => by simp [impl_GoodRelabel.j0] at h, fun _ _ _ _ _ _ _ _ _ r h => by simp [impl_GoodRelabel.j1] at h, fun _ _ _ _ _ _ _ _ _ r h => by simp [impl_GoodRelabel.j2] at h, fun _ _ _ _ _ _ _ _ _ r h => by simp [impl_GoodRelabel.j3] at h⟩
 | k + 1 => by
  obtain ⟨ih0, ih1, ih2, ih3⟩ := impl_GoodRelabel.mono_l k
  refine ⟨?_, ?_, ?_, ?_⟩
  ·intro y0 y1 y2 y3 y4 y5 y6 y7 y8
   unfold impl_GoodRelabel.j0
   repeat' first
   | with_reducible first | exact ih0 _ _ _ _ _ _ _ _ _ | exact ih1 _ _ _ _ _ _ _ _ _ | exact ih2 _ _ _ _ _ _ _ _ _ | exact ih3 _ _ _ _ _ _ _ _ _ | exact any_81_82.mono _ _ | exact impl_GoodPattern.mono _ _ | exact impl_isFilling.mono _ _ | exact impl_isName.mono _ _ | exact impl_isOne.mono _ _ _ | exact impl_printed.mono _ _ _ | exact LeO.refl _ | exact LeO.none _ | refine LeO.ite ?_ ?_ | refine LeO.bind ?_ (fun _ => ?_)
   | exact ih0 _ _ _ _ _ _ _ _ _
   | exact ih1 _ _ _ _ _ _ _ _ _
   | exact ih2 _ _ _ _ _ _ _ _ _
   | exact ih3 _ _ _ _ _ _ _ _ _
   | exact any_81_82.mono _ _
   | exact impl_GoodPattern.mono _ _
   | exact impl_isFilling.mono _ _
   | exact impl_isName.mono _ _
   | exact impl_isOne.mono _ _ _
   | exact impl_printed.mono _ _ _
   | exact LeO.none _
   | refine LeO.ite ?_ ?_
   | refine LeO.bind ?_ (fun _ => ?_)
  ·intro y0 y1 y2 y3 y4 y5 y6 y7 y8
   unfold impl_GoodRelabel.j1
   repeat' first
   | with_reducible first | exact ih0 _ _ _ _ _ _ _ _ _ | exact ih1 _ _ _ _ _ _ _ _ _ | exact ih2 _ _ _ _ _ _ _ _ _ | exact ih3 _ _ _ _ _ _ _ _ _ | exact any_81_82.mono _ _ | exact impl_GoodPattern.mono _ _ | exact impl_isFilling.mono _ _ | exact impl_isName.mono _ _ | exact impl_isOne.mono _ _ _ | exact impl_printed.mono _ _ _ | exact LeO.refl _ | exact LeO.none _ | refine LeO.ite ?_ ?_ | refine LeO.bind ?_ (fun _ => ?_)
   | exact ih0 _ _ _ _ _ _ _ _ _
   | exact ih1 _ _ _ _ _ _ _ _ _
   | exact ih2 _ _ _ _ _ _ _ _ _
   | exact ih3 _ _ _ _ _ _ _ _ _
   | exact any_81_82.mono _ _
   | exact impl_GoodPattern.mono _ _
   | exact impl_isFilling.mono _ _
   | exact impl_isName.mono _ _
   | exact impl_isOne.mono _ _ _
   | exact impl_printed.mono _ _ _
   | exact LeO.none _
   | refine LeO.ite ?_ ?_
   | refine LeO.bind ?_ (fun _ => ?_)
  ·intro y0 y1 y2 y3 y4 y5 y6 y7 y8
   unfold impl_GoodRelabel.j2
   repeat' first
   | with_reducible first | exact ih0 _ _ _ _ _ _ _ _ _ | exact ih1 _ _ _ _ _ _ _ _ _ | exact ih2 _ _ _ _ _ _ _ _ _ | exact ih3 _ _ _ _ _ _ _ _ _ | exact any_81_82.mono _ _ | exact impl_GoodPattern.mono _ _ | exact impl_isFilling.mono _ _ | exact impl_isName.mono _ _ | exact impl_isOne.mono _ _ _ | exact impl_printed.mono _ _ _ | exact LeO.refl _ | exact LeO.none _ | refine LeO.ite ?_ ?_ | refine LeO.bind ?_ (fun _ => ?_)
   | exact ih0 _ _ _ _ _ _ _ _ _
   | exact ih1 _ _ _ _ _ _ _ _ _
   | exact ih2 _ _ _ _ _ _ _ _ _
   | exact ih3 _ _ _ _ _ _ _ _ _
   | exact any_81_82.mono _ _
   | exact impl_GoodPattern.mono _ _
   | exact impl_isFilling.mono _ _
   | exact impl_isName.mono _ _
   | exact impl_isOne.mono _ _ _
   | exact impl_printed.mono _ _ _
   | exact LeO.none _
   | refine LeO.ite ?_ ?_
   | refine LeO.bind ?_ (fun _ => ?_)
  ·intro y0 y1 y2 y3 y4 y5 y6 y7 y8
   unfold impl_GoodRelabel.j3
   repeat' first
   | with_reducible first | exact ih0 _ _ _ _ _ _ _ _ _ | exact ih1 _ _ _ _ _ _ _ _ _ | exact ih2 _ _ _ _ _ _ _ _ _ | exact ih3 _ _ _ _ _ _ _ _ _ | exact any_81_82.mono _ _ | exact impl_GoodPattern.mono _ _ | exact impl_isFilling.mono _ _ | exact impl_isName.mono _ _ | exact impl_isOne.mono _ _ _ | exact impl_printed.mono _ _ _ | exact LeO.refl _ | exact LeO.none _ | refine LeO.ite ?_ ?_ | refine LeO.bind ?_ (fun _ => ?_)
   | exact ih0 _ _ _ _ _ _ _ _ _
   | exact ih1 _ _ _ _ _ _ _ _ _
   | exact ih2 _ _ _ _ _ _ _ _ _
   | exact ih3 _ _ _ _ _ _ _ _ _
   | exact any_81_82.mono _ _
   | exact impl_GoodPattern.mono _ _
   | exact impl_isFilling.mono _ _
   | exact impl_isName.mono _ _
   | exact impl_isOne.mono _ _ _
   | exact impl_printed.mono _ _ _
   | exact LeO.none _
   | refine LeO.ite ?_ ?_
   | refine LeO.bind ?_ (fun _ => ?_)
theorem impl_GoodRelabel.mono : ∀ a0 a1 a2 a3 a4 a5 a6 k, LeO (impl_GoodRelabel.f k a0 a1 a2 a3 a4 a5 a6) (impl_GoodRelabel.f (k + 1) a0 a1 a2 a3 a4 a5 a6) := by
 intro a0 a1 a2 a3 a4 a5 a6 k
 obtain ⟨ih0, ih1, ih2, ih3⟩ := impl_GoodRelabel.mono_l k
 unfold impl_GoodRelabel.f
 repeat' first
   | with_reducible first | exact ih0 _ _ _ _ _ _ _ _ _ | exact ih1 _ _ _ _ _ _ _ _ _ | exact ih2 _ _ _ _ _ _ _ _ _ | exact ih3 _ _ _ _ _ _ _ _ _ | exact any_81_82.mono _ _ | exact impl_GoodPattern.mono _ _ | exact impl_isFilling.mono _ _ | exact impl_isName.mono _ _ | exact impl_isOne.mono _ _ _ | exact impl_printed.mono _ _ _ | exact LeO.refl _ | exact LeO.none _ | refine LeO.ite ?_ ?_ | refine LeO.bind ?_ (fun _ => ?_)
   | exact ih0 _ _ _ _ _ _ _ _ _
   | exact ih1 _ _ _ _ _ _ _ _ _
   | exact ih2 _ _ _ _ _ _ _ _ _
   | exact ih3 _ _ _ _ _ _ _ _ _
   | exact any_81_82.mono _ _
   | exact impl_GoodPattern.mono _ _
   | exact impl_isFilling.mono _ _
   | exact impl_isName.mono _ _
   | exact impl_isOne.mono _ _ _
   | exact impl_printed.mono _ _ _
   | exact LeO.none _
   | refine LeO.ite ?_ ?_
   | refine LeO.bind ?_ (fun _ => ?_)
def impl_GoodRelabel.T4 : Bool × List (List Nat × List Nat) := (true, [([], []), ([], []), ([0, 1], [0, 1]), ([], []), ([3], [3]), ([4], [4]), ([2, 5], [2, 5]), ([6, 2], [6]), ([7], [7]), ([8, 7], [7, 8]), ([9, 7], [7, 9]), ([10, 7, 7], [7, 10]), ([11], [11]), ([12, 11], [11, 12]), ([13, 11, 11], [11, 13]), ([14, 11], [11, 14]), ([11, 15, 7], [7, 11, 15]), ([7, 16], [7, 16])])
def impl_GoodRelabel.B4 : List Nat := [0, 0, 3, 0, 8, 24, 63, 127, 255, 511, 1023, 2047, 4095, 8191, 16383, 32767, 65535, 131071]
theorem impl_GoodRelabel.tab4 : rtab .any (opsOf Try.f34 4) = impl_GoodRelabel.T4 := by kernel_rfl
theorem impl_GoodRelabel.bits4 : waitsOk impl_GoodRelabel.T4.2 impl_GoodRelabel.B4 = true := by kernel_rfl
set_option maxHeartbeats 8000000 in
set_option maxRecDepth 100000 in
theorem impl_GoodRelabel.calls (k : Nat) (a0_0 : Int) (A0_1 : Option Addr) (c0_1 : Nat) (l0_1 : List ByteArray) (a0_2 : ByteArray) (a0_3 : ByteArray) (a0_4 : ByteArray) (a0_5 : ByteArray) (a0_6 : Int) (r : Bool) (w : World) (hr0_1 : Kd.C Kd.string w A0_1 l0_1.length l0_1) (hc0_1 : l0_1.length ≤ c0_1) (h : impl_GoodRelabel.f k a0_0 l0_1 a0_2 a0_3 a0_4 a0_5 a0_6 = some r) :
  Calls Try.prog 34 #[.agg #[.int .i64 a0_0, .slice A0_1 l0_1.length c0_1, .string a0_2, .string a0_3, .string a0_4, .string a0_5, .int .i64 a0_6]] w fun e w' => e = .returned (.bool r) ∧ Below w.heap.size w w' := by
 have hu42 := Try.underlying42
 have HR0_1 := am_ hr0_1
 have HC0_1 := am_ hc0_1
 clear hr0_1 hc0_1
 have HB := am_ (Below.refl w.heap.size w)
 have H : (if a0_0 < 1 then (impl_GoodRelabel.j0 k a0_0 true a0_0 l0_1 a0_2 a0_3 a0_4 a0_5 a0_6) else (if a0_0 > 8 then (impl_GoodRelabel.j0 k a0_0 true a0_0 l0_1 a0_2 a0_3 a0_4 a0_5 a0_6) else (if (l0_1.length : Int) > 10 then (impl_GoodRelabel.j0 k a0_0 true a0_0 l0_1 a0_2 a0_3 a0_4 a0_5 a0_6) else ((any_81_82.f k l0_1).bind fun t1002 => (if t1002 = true then (impl_GoodRelabel.j0 k a0_0 true a0_0 l0_1 a0_2 a0_3 a0_4 a0_5 a0_6) else ((impl_printed.f k a0_2 10).bind fun t1003 => (if t1003 = true then ((impl_GoodPattern.f k a0_3).bind fun t1004 => (impl_GoodRelabel.j0 k a0_0 (!t1004) a0_0 l0_1 a0_2 a0_3 a0_4 a0_5 a0_6)) else (impl_GoodRelabel.j0 k a0_0 true a0_0 l0_1 a0_2 a0_3 a0_4 a0_5 a0_6)))))))) = some r := h
 clear h
 have HC2 := am_ H
 clear H
 go_enter Try.func34, Try.ntmps34
 go_upto_region 2 with (first | ((with_reducible refine gate_dst (N := 1) rfl ?_); (try (refine gate_guard (by rfl) ?_; dsimp only)); refine box_event ?hg (N := 1) ?hd (cs := #[.int .i64 a0_0, .slice A0_1 l0_1.length c0_1, .string a0_2, .string a0_3, .string a0_4, .string a0_5, .int .i64 a0_6]) (t := 42) ?hr ?_; (case hd => rfl); (case hg => rfl); (case hr => first | (go_simp; done) | (go_simp; rfl)); intro gb1001 hg w3 hbox hb; have n0_ := am_ (below_step bl_ hb); have n1_ := am_ (hbox); have n2_ := am_ (gs_ hg : w.heap.size ≤ gb1001); have n3_ := n2_; clear HB; have HB := n0_; have BK1001 := n1_; have GW1001 := n2_; have GE1001 := n3_; clear n0_ n1_ n2_ n3_; clear hb hbox hg; have hcz4_0 : w3.cell? ⟨gb1001, 0, none⟩ = some (.int .i64 a0_0) := (blk_cell BK1001.out 0).trans rfl; have hcz4_1 : w3.cell? ⟨gb1001, 1, none⟩ = some (.slice A0_1 l0_1.length c0_1) := (blk_cell BK1001.out 1).trans rfl; have hcz4_2 : w3.cell? ⟨gb1001, 2, none⟩ = some (.string a0_2) := (blk_cell BK1001.out 2).trans rfl; have hcz4_3 : w3.cell? ⟨gb1001, 3, none⟩ = some (.string a0_3) := (blk_cell BK1001.out 3).trans rfl; have hcz4_4 : w3.cell? ⟨gb1001, 4, none⟩ = some (.string a0_4) := (blk_cell BK1001.out 4).trans rfl; have hcz4_5 : w3.cell? ⟨gb1001, 5, none⟩ = some (.string a0_5) := (blk_cell BK1001.out 5).trans rfl; have hcz4_6 : w3.cell? ⟨gb1001, 6, none⟩ = some (.int .i64 a0_6) := (blk_cell BK1001.out 6).trans rfl; have hfz4_0 := bf_ BK1001 0; have hfz4_1 := bf_ BK1001 1; have hfz4_2 := bf_ BK1001 2; have hfz4_3 := bf_ BK1001 3; have hfz4_4 := bf_ BK1001 4; have hfz4_5 := bf_ BK1001 5; have hfz4_6 := bf_ BK1001 6))
 (try simp only [Act.put, List.setIfInBounds_toArray, List.set_cons_zero, List.set_cons_succ])
 go_cut [34] (fun v34 wc => ∃ (kq : Nat) (x34_1 : Bool), v34 = .bool x34_1 ∧ Aside0 (impl_GoodRelabel.j0 kq a0_0 x34_1 a0_0 l0_1 a0_2 a0_3 a0_4 a0_5 a0_6 = some r) ∧ Aside0 (kq ≤ k) ∧ Aside0 (wc.heap[gb1001]? = some (.cells #[.int .i64 a0_0, (.slice A0_1 l0_1.length c0_1), .string a0_2, .string a0_3, .string a0_4, .string a0_5, .int .i64 a0_6] 42 (0, 0))) ∧ Aside0 (Below w.heap.size w wc))
 case first =>
  have H := HC2.out
  clear HC2
  by_cases c5 : a0_0 < 1
  ·rw [if_pos c5] at H
   have c5b0 : decide (a0_0 < 1) = true := decide_eq_true c5
   clear c5
   (first | rw [c5b0] | (simp only [i64_w, i32_w]; rw [c5b0]) | skip)
   have H' := am_ H
   clear H
   go_wp2
   go_meet
   case rel => exact ⟨_, (true), rs_, H', ⟨by first | omega | exact Nat.le_refl _⟩, ⟨vk_ BK1001⟩, ⟨bg_⟩⟩
  ·rw [if_neg c5] at H
   have c5b0 : decide (a0_0 < 1) = false := decide_eq_false c5
   clear c5
   (first | rw [c5b0] | (simp only [i64_w, i32_w]; rw [c5b0]) | skip)
   by_cases c6 : a0_0 > 8
   ·rw [if_pos c6] at H
    have c6b0 : decide (8 < a0_0) = true := decide_eq_true c6
    clear c6
    have H' := am_ H
    clear H
    go_wp2
    go_meet
    case rel => exact ⟨_, (true), rs_, H', ⟨by first | omega | exact Nat.le_refl _⟩, ⟨vk_ BK1001⟩, ⟨bg_⟩⟩
   ·rw [if_neg c6] at H
    have c6b0 : decide (8 < a0_0) = false := decide_eq_false c6
    clear c6
    by_cases c7 : (l0_1.length : Int) > 10
    ·rw [if_pos c7] at H
     have c7b0 : decide (10 < (l0_1.length : Int)) = true := decide_eq_true c7
     have c7b1 : decide (10 < l0_1.length) = true := decide_eq_true (by omega)
     clear c7
     have H' := am_ H
     clear H
     have hcz8_0 : w3.cell? ⟨gb1001, 0, none⟩ = some (.int .i64 a0_0) := (blk_cell BK1001.out 0).trans rfl
     have hcz8_1 : w3.cell? ⟨gb1001, 1, none⟩ = some (.slice A0_1 l0_1.length c0_1) := (blk_cell BK1001.out 1).trans rfl
     have hcz8_2 : w3.cell? ⟨gb1001, 2, none⟩ = some (.string a0_2) := (blk_cell BK1001.out 2).trans rfl
     have hcz8_3 : w3.cell? ⟨gb1001, 3, none⟩ = some (.string a0_3) := (blk_cell BK1001.out 3).trans rfl
     have hcz8_4 : w3.cell? ⟨gb1001, 4, none⟩ = some (.string a0_4) := (blk_cell BK1001.out 4).trans rfl
     have hcz8_5 : w3.cell? ⟨gb1001, 5, none⟩ = some (.string a0_5) := (blk_cell BK1001.out 5).trans rfl
     have hcz8_6 : w3.cell? ⟨gb1001, 6, none⟩ = some (.int .i64 a0_6) := (blk_cell BK1001.out 6).trans rfl
     have hfz8_0 := bf_ BK1001 0
     have hfz8_1 := bf_ BK1001 1
     have hfz8_2 := bf_ BK1001 2
     have hfz8_3 := bf_ BK1001 3
     have hfz8_4 := bf_ BK1001 4
     have hfz8_5 := bf_ BK1001 5
     have hfz8_6 := bf_ BK1001 6
     go_wp2
     go_meet
     case rel => exact ⟨_, (true), rs_, H', ⟨by first | omega | exact Nat.le_refl _⟩, ⟨vk_ BK1001⟩, ⟨bg_⟩⟩
    ·rw [if_neg c7] at H
     have c7b0 : decide (10 < (l0_1.length : Int)) = false := decide_eq_false c7
     have c7b1 : decide (10 < l0_1.length) = false := decide_eq_false (by omega)
     clear c7
     replace H := Option.bind_eq_some_iff.mp H
     obtain ⟨t1002, A90, H⟩ := H
     replace H : (if t1002 = true then (impl_GoodRelabel.j0 k a0_0 true a0_0 l0_1 a0_2 a0_3 a0_4 a0_5 a0_6) else ((impl_printed.f k a0_2 10).bind fun t1003 => (if t1003 = true then ((impl_GoodPattern.f k a0_3).bind fun t1004 => (impl_GoodRelabel.j0 k a0_0 (!t1004) a0_0 l0_1 a0_2 a0_3 a0_4 a0_5 a0_6)) else (impl_GoodRelabel.j0 k a0_0 true a0_0 l0_1 a0_2 a0_3 a0_4 a0_5 a0_6)))) = some r := H
     have A9 := am_ A90
     clear A90
     by_cases c10 : t1002 = true
     ·subst c10
      have H1 : (impl_GoodRelabel.j0 k a0_0 true a0_0 l0_1 a0_2 a0_3 a0_4 a0_5 a0_6) = some r := by rw [if_pos rfl] at H; exact H
      clear H
      have H := H1
      clear H1
      have H' := am_ H
      clear H
      have hcz11_0 : w3.cell? ⟨gb1001, 0, none⟩ = some (.int .i64 a0_0) := (blk_cell BK1001.out 0).trans rfl
      have hcz11_1 : w3.cell? ⟨gb1001, 1, none⟩ = some (.slice A0_1 l0_1.length c0_1) := (blk_cell BK1001.out 1).trans rfl
      have hcz11_2 : w3.cell? ⟨gb1001, 2, none⟩ = some (.string a0_2) := (blk_cell BK1001.out 2).trans rfl
      have hcz11_3 : w3.cell? ⟨gb1001, 3, none⟩ = some (.string a0_3) := (blk_cell BK1001.out 3).trans rfl
      have hcz11_4 : w3.cell? ⟨gb1001, 4, none⟩ = some (.string a0_4) := (blk_cell BK1001.out 4).trans rfl
      have hcz11_5 : w3.cell? ⟨gb1001, 5, none⟩ = some (.string a0_5) := (blk_cell BK1001.out 5).trans rfl
      have hcz11_6 : w3.cell? ⟨gb1001, 6, none⟩ = some (.int .i64 a0_6) := (blk_cell BK1001.out 6).trans rfl
      have hfz11_0 := bf_ BK1001 0
      have hfz11_1 := bf_ BK1001 1
      have hfz11_2 := bf_ BK1001 2
      have hfz11_3 := bf_ BK1001 3
      have hfz11_4 := bf_ BK1001 4
      have hfz11_5 := bf_ BK1001 5
      have hfz11_6 := bf_ BK1001 6
      go_wp2_with (first | (go_at_call 81; (with_reducible refine (any_81_82.calls k _ _ l0_1 true _ ?side1 ?side2 A9.out).mono ?_); (case side1 => exact cc_ (Kd.C_below HR0_1.out HB.out)); (case side2 => exact HC0_1.out); rintro e w12 ⟨rfl, hb⟩; have n0_ := am_ (blk_below (g := gb1001) (vk_ BK1001) hb); have n1_ := am_ (below_step bg_ hb); clear BK1001; clear HB; have BK1001 := n0_; have HB := n1_; clear n0_ n1_; (try clear hb); (try clear hb2); (try clear hk); (try clear hi)))
      go_meet
      case rel => exact ⟨_, (true), rs_, H', ⟨by first | omega | exact Nat.le_refl _⟩, ⟨vk_ BK1001⟩, ⟨bg_⟩⟩
     ·replace c10 := Bool.eq_false_iff.mpr c10
      subst c10
      have H1 : ((impl_printed.f k a0_2 10).bind fun t1003 => (if t1003 = true then ((impl_GoodPattern.f k a0_3).bind fun t1004 => (impl_GoodRelabel.j0 k a0_0 (!t1004) a0_0 l0_1 a0_2 a0_3 a0_4 a0_5 a0_6)) else (impl_GoodRelabel.j0 k a0_0 true a0_0 l0_1 a0_2 a0_3 a0_4 a0_5 a0_6))) = some r := by rw [if_neg (show ¬ (false = true) by decide)] at H; exact H
      clear H
      have H := H1
      clear H1
      replace H := Option.bind_eq_some_iff.mp H
      obtain ⟨t1003, A130, H⟩ := H
      replace H : (if t1003 = true then ((impl_GoodPattern.f k a0_3).bind fun t1004 => (impl_GoodRelabel.j0 k a0_0 (!t1004) a0_0 l0_1 a0_2 a0_3 a0_4 a0_5 a0_6)) else (impl_GoodRelabel.j0 k a0_0 true a0_0 l0_1 a0_2 a0_3 a0_4 a0_5 a0_6)) = some r := H
      have A13 := am_ A130
      clear A130
      by_cases c14 : t1003 = true
      ·subst c14
       have H1 : ((impl_GoodPattern.f k a0_3).bind fun t1004 => (impl_GoodRelabel.j0 k a0_0 (!t1004) a0_0 l0_1 a0_2 a0_3 a0_4 a0_5 a0_6)) = some r := by rw [if_pos rfl] at H; exact H
       clear H
       have H := H1
       clear H1
       replace H := Option.bind_eq_some_iff.mp H
       obtain ⟨t1004, A150, H⟩ := H
       replace H : (impl_GoodRelabel.j0 k a0_0 (!t1004) a0_0 l0_1 a0_2 a0_3 a0_4 a0_5 a0_6) = some r := H
       have A15 := am_ A150
       clear A150
       have H' := am_ H
       clear H
       have hcz16_0 : w3.cell? ⟨gb1001, 0, none⟩ = some (.int .i64 a0_0) := (blk_cell BK1001.out 0).trans rfl
       have hcz16_1 : w3.cell? ⟨gb1001, 1, none⟩ = some (.slice A0_1 l0_1.length c0_1) := (blk_cell BK1001.out 1).trans rfl
       have hcz16_2 : w3.cell? ⟨gb1001, 2, none⟩ = some (.string a0_2) := (blk_cell BK1001.out 2).trans rfl
       have hcz16_3 : w3.cell? ⟨gb1001, 3, none⟩ = some (.string a0_3) := (blk_cell BK1001.out 3).trans rfl
       have hcz16_4 : w3.cell? ⟨gb1001, 4, none⟩ = some (.string a0_4) := (blk_cell BK1001.out 4).trans rfl
       have hcz16_5 : w3.cell? ⟨gb1001, 5, none⟩ = some (.string a0_5) := (blk_cell BK1001.out 5).trans rfl
       have hcz16_6 : w3.cell? ⟨gb1001, 6, none⟩ = some (.int .i64 a0_6) := (blk_cell BK1001.out 6).trans rfl
       have hfz16_0 := bf_ BK1001 0
       have hfz16_1 := bf_ BK1001 1
       have hfz16_2 := bf_ BK1001 2
       have hfz16_3 := bf_ BK1001 3
       have hfz16_4 := bf_ BK1001 4
       have hfz16_5 := bf_ BK1001 5
       have hfz16_6 := bf_ BK1001 6
       go_wp2_with (first | (go_at_call 81; (with_reducible refine (any_81_82.calls k _ _ l0_1 false _ ?side1 ?side2 A9.out).mono ?_); (case side1 => exact cc_ (Kd.C_below HR0_1.out HB.out)); (case side2 => exact HC0_1.out); rintro e w17 ⟨rfl, hb⟩; have n0_ := am_ (blk_below (g := gb1001) (vk_ BK1001) hb); have n1_ := am_ (below_step bg_ hb); clear BK1001; clear HB; have BK1001 := n0_; have HB := n1_; clear n0_ n1_; (try clear hb); (try clear hb2); (try clear hk); (try clear hi); have hcz18_0 : w17.cell? ⟨gb1001, 0, none⟩ = some (.int .i64 a0_0) := (blk_cell BK1001.out 0).trans rfl; have hcz18_1 : w17.cell? ⟨gb1001, 1, none⟩ = some (.slice A0_1 l0_1.length c0_1) := (blk_cell BK1001.out 1).trans rfl; have hcz18_2 : w17.cell? ⟨gb1001, 2, none⟩ = some (.string a0_2) := (blk_cell BK1001.out 2).trans rfl; have hcz18_3 : w17.cell? ⟨gb1001, 3, none⟩ = some (.string a0_3) := (blk_cell BK1001.out 3).trans rfl; have hcz18_4 : w17.cell? ⟨gb1001, 4, none⟩ = some (.string a0_4) := (blk_cell BK1001.out 4).trans rfl; have hcz18_5 : w17.cell? ⟨gb1001, 5, none⟩ = some (.string a0_5) := (blk_cell BK1001.out 5).trans rfl; have hcz18_6 : w17.cell? ⟨gb1001, 6, none⟩ = some (.int .i64 a0_6) := (blk_cell BK1001.out 6).trans rfl; have hfz18_0 := bf_ BK1001 0; have hfz18_1 := bf_ BK1001 1; have hfz18_2 := bf_ BK1001 2; have hfz18_3 := bf_ BK1001 3; have hfz18_4 := bf_ BK1001 4; have hfz18_5 := bf_ BK1001 5; have hfz18_6 := bf_ BK1001 6) | (go_at_call 84; (with_reducible refine (impl_printed.calls k a0_2 10 true _ A13.out).mono ?_); rintro e w' ⟨rfl, ⟨nd, rfl⟩⟩) | (go_at_call 85; (with_reducible refine (impl_GoodPattern.calls k a0_3 t1004 _ A15.out).mono ?_); rintro e w19 ⟨rfl, hb⟩; have n0_ := am_ (blk_below (g := gb1001) (vk_ BK1001) hb); have n1_ := am_ (below_step bg_ hb); clear BK1001; clear HB; have BK1001 := n0_; have HB := n1_; clear n0_ n1_; (try clear hb); (try clear hb2); (try clear hk); (try clear hi)))
       go_meet
       case rel => exact ⟨_, (!t1004), rs_, H', ⟨by first | omega | exact Nat.le_refl _⟩, ⟨vk_ BK1001⟩, ⟨bg_⟩⟩
      ·replace c14 := Bool.eq_false_iff.mpr c14
       subst c14
       have H1 : (impl_GoodRelabel.j0 k a0_0 true a0_0 l0_1 a0_2 a0_3 a0_4 a0_5 a0_6) = some r := by rw [if_neg (show ¬ (false = true) by decide)] at H; exact H
       clear H
       have H := H1
       clear H1
       have H' := am_ H
       clear H
       have hcz20_0 : w3.cell? ⟨gb1001, 0, none⟩ = some (.int .i64 a0_0) := (blk_cell BK1001.out 0).trans rfl
       have hcz20_1 : w3.cell? ⟨gb1001, 1, none⟩ = some (.slice A0_1 l0_1.length c0_1) := (blk_cell BK1001.out 1).trans rfl
       have hcz20_2 : w3.cell? ⟨gb1001, 2, none⟩ = some (.string a0_2) := (blk_cell BK1001.out 2).trans rfl
       have hcz20_3 : w3.cell? ⟨gb1001, 3, none⟩ = some (.string a0_3) := (blk_cell BK1001.out 3).trans rfl
       have hcz20_4 : w3.cell? ⟨gb1001, 4, none⟩ = some (.string a0_4) := (blk_cell BK1001.out 4).trans rfl
       have hcz20_5 : w3.cell? ⟨gb1001, 5, none⟩ = some (.string a0_5) := (blk_cell BK1001.out 5).trans rfl
       have hcz20_6 : w3.cell? ⟨gb1001, 6, none⟩ = some (.int .i64 a0_6) := (blk_cell BK1001.out 6).trans rfl
       have hfz20_0 := bf_ BK1001 0
       have hfz20_1 := bf_ BK1001 1
       have hfz20_2 := bf_ BK1001 2
       have hfz20_3 := bf_ BK1001 3
       have hfz20_4 := bf_ BK1001 4
       have hfz20_5 := bf_ BK1001 5
       have hfz20_6 := bf_ BK1001 6
       go_wp2_with (first | (go_at_call 81; (with_reducible refine (any_81_82.calls k _ _ l0_1 false _ ?side1 ?side2 A9.out).mono ?_); (case side1 => exact cc_ (Kd.C_below HR0_1.out HB.out)); (case side2 => exact HC0_1.out); rintro e w21 ⟨rfl, hb⟩; have n0_ := am_ (blk_below (g := gb1001) (vk_ BK1001) hb); have n1_ := am_ (below_step bg_ hb); clear BK1001; clear HB; have BK1001 := n0_; have HB := n1_; clear n0_ n1_; (try clear hb); (try clear hb2); (try clear hk); (try clear hi); have hcz22_0 : w21.cell? ⟨gb1001, 0, none⟩ = some (.int .i64 a0_0) := (blk_cell BK1001.out 0).trans rfl; have hcz22_1 : w21.cell? ⟨gb1001, 1, none⟩ = some (.slice A0_1 l0_1.length c0_1) := (blk_cell BK1001.out 1).trans rfl; have hcz22_2 : w21.cell? ⟨gb1001, 2, none⟩ = some (.string a0_2) := (blk_cell BK1001.out 2).trans rfl; have hcz22_3 : w21.cell? ⟨gb1001, 3, none⟩ = some (.string a0_3) := (blk_cell BK1001.out 3).trans rfl; have hcz22_4 : w21.cell? ⟨gb1001, 4, none⟩ = some (.string a0_4) := (blk_cell BK1001.out 4).trans rfl; have hcz22_5 : w21.cell? ⟨gb1001, 5, none⟩ = some (.string a0_5) := (blk_cell BK1001.out 5).trans rfl; have hcz22_6 : w21.cell? ⟨gb1001, 6, none⟩ = some (.int .i64 a0_6) := (blk_cell BK1001.out 6).trans rfl; have hfz22_0 := bf_ BK1001 0; have hfz22_1 := bf_ BK1001 1; have hfz22_2 := bf_ BK1001 2; have hfz22_3 := bf_ BK1001 3; have hfz22_4 := bf_ BK1001 4; have hfz22_5 := bf_ BK1001 5; have hfz22_6 := bf_ BK1001 6) | (go_at_call 84; (with_reducible refine (impl_printed.calls k a0_2 10 false _ A13.out).mono ?_); rintro e w' ⟨rfl, ⟨nd, rfl⟩⟩))
       go_meet
       case rel => exact ⟨_, (true), rs_, H', ⟨by first | omega | exact Nat.le_refl _⟩, ⟨vk_ BK1001⟩, ⟨bg_⟩⟩
 case rest =>
  clear HC2
  try clear c1
  try clear p2
  try clear c3
  try clear c5
  try clear c5b0
  try clear c6
  try clear c6b0
  try clear c7
  try clear c7b0
  try clear c7b1
  try clear c10
  try clear c14
  try clear hcz11_0
  try clear hcz11_1
  try clear hcz11_2
  try clear hcz11_3
  try clear hcz11_4
  try clear hcz11_5
  try clear hcz11_6
  try clear hcz16_0
  try clear hcz16_1
  try clear hcz16_2
  try clear hcz16_3
  try clear hcz16_4
  try clear hcz16_5
  try clear hcz16_6
  try clear hcz18_0
  try clear hcz18_1
  try clear hcz18_2
  try clear hcz18_3
  try clear hcz18_4
  try clear hcz18_5
  try clear hcz18_6
  try clear hcz20_0
  try clear hcz20_1
  try clear hcz20_2
  try clear hcz20_3
  try clear hcz20_4
  try clear hcz20_5
  try clear hcz20_6
  try clear hcz22_0
  try clear hcz22_1
  try clear hcz22_2
  try clear hcz22_3
  try clear hcz22_4
  try clear hcz22_5
  try clear hcz22_6
  try clear hcz4_0
  try clear hcz4_1
  try clear hcz4_2
  try clear hcz4_3
  try clear hcz4_4
  try clear hcz4_5
  try clear hcz4_6
  try clear hcz8_0
  try clear hcz8_1
  try clear hcz8_2
  try clear hcz8_3
  try clear hcz8_4
  try clear hcz8_5
  try clear hcz8_6
  try clear hfz11_0
  try clear hfz11_1
  try clear hfz11_2
  try clear hfz11_3
  try clear hfz11_4
  try clear hfz11_5
  try clear hfz11_6
  try clear hfz16_0
  try clear hfz16_1
  try clear hfz16_2
  try clear hfz16_3
  try clear hfz16_4
  try clear hfz16_5
  try clear hfz16_6
  try clear hfz18_0
  try clear hfz18_1
  try clear hfz18_2
  try clear hfz18_3
  try clear hfz18_4
  try clear hfz18_5
  try clear hfz18_6
  try clear hfz20_0
  try clear hfz20_1
  try clear hfz20_2
  try clear hfz20_3
  try clear hfz20_4
  try clear hfz20_5
  try clear hfz20_6
  try clear hfz22_0
  try clear hfz22_1
  try clear hfz22_2
  try clear hfz22_3
  try clear hfz22_4
  try clear hfz22_5
  try clear hfz22_6
  try clear hfz4_0
  try clear hfz4_1
  try clear hfz4_2
  try clear hfz4_3
  try clear hfz4_4
  try clear hfz4_5
  try clear hfz4_6
  try clear hfz8_0
  try clear hfz8_1
  try clear hfz8_2
  try clear hfz8_3
  try clear hfz8_4
  try clear hfz8_5
  try clear hfz8_6
  obtain ⟨kq, x34_1, rfl, HA, HJ1, BK1001, HB⟩ := hcut
  cases kq with
  | zero => exact absurd HA.out (by simp [impl_GoodRelabel.j0])
  | succ kj1 =>
   have H := HA.out
   clear HA
   simp only [impl_GoodRelabel.j0] at H
   by_cases c23 : x34_1 = true
   ·subst c23
    have H1 : (some false) = some r := by rw [if_pos rfl] at H; exact H
    clear H
    have H := H1
    clear H1
    obtain rfl := Option.some.inj H
    go_wp2
    go_ret
    exact ⟨rf_, bg_⟩
   ·replace c23 := Bool.eq_false_iff.mpr c23
    subst c23
    have H1 : ((impl_isOne.f kj1 a0_0 (([3, 4, 8] : List Int))).bind fun t1008 => (if (t1008 != (a0_4.toList != ([] : List UInt8))) = true then (impl_GoodRelabel.j1 kj1 a0_0 true a0_0 l0_1 a0_2 a0_3 a0_4 a0_5 a0_6) else (if a0_4.toList = ([] : List UInt8) then (impl_GoodRelabel.j1 kj1 a0_0 false a0_0 l0_1 a0_2 a0_3 a0_4 a0_5 a0_6) else ((impl_isName.f kj1 a0_4).bind fun t1009 => (impl_GoodRelabel.j1 kj1 a0_0 (!t1009) a0_0 l0_1 a0_2 a0_3 a0_4 a0_5 a0_6))))) = some r := by rw [if_neg (show ¬ (false = true) by decide)] at H; exact H
    clear H
    have H := H1
    clear H1
    have HC24 := am_ H
    clear H
    go_upto_region 4 with (fail)
    go_cut [52] (fun v52 wc => ∃ (kq : Nat) (x52_23 : Bool), v52 = .bool x52_23 ∧ Aside0 (impl_GoodRelabel.j1 kq a0_0 x52_23 a0_0 l0_1 a0_2 a0_3 a0_4 a0_5 a0_6 = some r) ∧ Aside0 (kq ≤ kj1) ∧ Aside0 (wc.heap[gb1001]? = some (.cells #[.int .i64 a0_0, (.slice A0_1 l0_1.length c0_1), .string a0_2, .string a0_3, .string a0_4, .string a0_5, .int .i64 a0_6] 42 (0, 0))) ∧ Aside0 (Below w.heap.size w wc))
    case first =>
     have H := HC24.out
     clear HC24
     obtain ⟨y1005, hy1005⟩ : ∃ y_ : List Int, y_ = (([3, 4, 8] : List Int)) := ⟨_, rfl⟩
     replace H : ((impl_isOne.f kj1 a0_0 y1005).bind fun t1008 => (if (t1008 != (a0_4.toList != ([] : List UInt8))) = true then (impl_GoodRelabel.j1 kj1 a0_0 true a0_0 l0_1 a0_2 a0_3 a0_4 a0_5 a0_6) else (if a0_4.toList = ([] : List UInt8) then (impl_GoodRelabel.j1 kj1 a0_0 false a0_0 l0_1 a0_2 a0_3 a0_4 a0_5 a0_6) else ((impl_isName.f kj1 a0_4).bind fun t1009 => (impl_GoodRelabel.j1 kj1 a0_0 (!t1009) a0_0 l0_1 a0_2 a0_3 a0_4 a0_5 a0_6))))) = some r := by first | (rw [hy1005]; with_reducible exact H) | (have H2_ := (Option.bind_some _ _).symm.trans H; rw [hy1005]; with_reducible exact H2_) | (have H2_ := (Option.bind_some _ _).symm.trans H; with_reducible exact H2_) | with_reducible exact H | (rw [hy1005]; exact H) | exact H
     have Ny1005 := am_ hy1005
     clear hy1005
     replace H := Option.bind_eq_some_iff.mp H
     obtain ⟨t1008, A250, H⟩ := H
     replace H : (if (t1008 != (a0_4.toList != ([] : List UInt8))) = true then (impl_GoodRelabel.j1 kj1 a0_0 true a0_0 l0_1 a0_2 a0_3 a0_4 a0_5 a0_6) else (if a0_4.toList = ([] : List UInt8) then (impl_GoodRelabel.j1 kj1 a0_0 false a0_0 l0_1 a0_2 a0_3 a0_4 a0_5 a0_6) else ((impl_isName.f kj1 a0_4).bind fun t1009 => (impl_GoodRelabel.j1 kj1 a0_0 (!t1009) a0_0 l0_1 a0_2 a0_3 a0_4 a0_5 a0_6)))) = some r := H
     have A25 := am_ A250
     clear A250
     by_cases c26 : (t1008 != (a0_4.toList != ([] : List UInt8))) = true
     ·rw [if_pos c26] at H
      have c26b0 : (t1008 != (a0_4.toList != ([] : List UInt8))) = true := c26
      (try (have c26b1 : decide (t1008 = (a0_4.toList != ([] : List UInt8))) = false := by simpa using c26))
      (try (have c26b2 : (t1008 == (a0_4.toList != ([] : List UInt8))) = false := by simpa using c26))
      (try (have c26b2n : (t1008 == !a0_4.toList.isEmpty) = false := by rw [← Go.Proofs.Ytnnlgbpfdnaalaa.Gt.nil_bne]; exact c26b2))
      (try (have c26b3 : ¬ (t1008 = (a0_4.toList != ([] : List UInt8))) := by simpa using c26))
      clear c26
      (first | rw [c26b0] | (simp only [i64_w, i32_w]; rw [c26b0]) | skip)
      have H' := am_ H
      clear H
      try go_wp2
      have n0_ := am_ (blk_drew BK1001.out)
      have n1_ := am_ (below_drew1 HB.out)
      clear BK1001
      clear HB
      have BK1001 := n0_
      have HB := n1_
      clear n0_ n1_
      refine start_ (n := 18) (S := fun w' => w'.cell? ⟨gb1001, 0, none⟩ = some (.int .i64 a0_0) ∧ w'.cell? ⟨gb1001, 1, none⟩ = some (.slice A0_1 l0_1.length c0_1) ∧ w'.cell? ⟨gb1001, 2, none⟩ = some (.string a0_2) ∧ w'.cell? ⟨gb1001, 3, none⟩ = some (.string a0_3) ∧ w'.cell? ⟨gb1001, 4, none⟩ = some (.string a0_4) ∧ w'.cell? ⟨gb1001, 5, none⟩ = some (.string a0_5) ∧ w'.cell? ⟨gb1001, 6, none⟩ = some (.int .i64 a0_6)) (ds := []) (bz 18 0) (by kernel_rfl) rfl rfl ⟨(blk_cell BK1001.out 0).trans rfl, (blk_cell BK1001.out 1).trans rfl, (blk_cell BK1001.out 2).trans rfl, (blk_cell BK1001.out 3).trans rfl, (blk_cell BK1001.out 4).trans rfl, (blk_cell BK1001.out 5).trans rfl, (blk_cell BK1001.out 6).trans rfl⟩ (fun hHeld => ?_); refine with_tabW impl_GoodRelabel.tab4 impl_GoodRelabel.bits4 (fun HT_ HW_ => ?_)
      generalize wc.drew = w27 at BK1001 HB hHeld ⊢
      refine pz_ 0 35 1 ?_
      refine pz_ 3 38 9 ?_
      refine tz_ 4 39 25 ?_
      refine pz_ 5 40 57 ?_
      refine one_ (i := 1) (N := some 36) (bz 18 59) rfl rfl (one_of HT_.out (by kernel_rfl)) (by decide) (fun K hK => ?_)
      refine Kd.R_lit_step (Kd.int .i64) _ 3 ?hg (N := 36) ?hd (xs := ([3, 4, 8] : List Int)) (inner := [.int .i64 3, .int .i64 4, .int .i64 8]) (ok := fun _ => True) (okp := fun _ => True) ?hr ?hp (fun _ hk => hk) trivial (Below.refl _ _) (Nat.le_refl _) (by simp) ?_; (case hd => rfl); (case hg => rfl); (case hr => first | (go_simp; done) | (go_simp; rfl)); (case hp => exact (Reps.one (show Kd.M (Kd.int .i64) _ _ _ 3 [.int .i64 3] from rfl) (Reps.one (show Kd.M (Kd.int .i64) _ _ _ 4 [.int .i64 4] from rfl) (Reps.one (show Kd.M (Kd.int .i64) _ _ _ 8 [.int .i64 8] from rfl) (Reps.none _ _)))))
      intro v1006 w28 ho29 hb hg_ hnew_
      clear hg_ hnew_
      (first | rw [← Ny1005.out] at ho29 | (simp only [Int.reduceToNat] at ho29; rw [← Ny1005.out] at ho29))
      have n0_ := am_ (Kd.R_lower ho29 (below_size bg_))
      have n1_ := am_ (blk_below (g := gb1001) (vk_ BK1001) hb)
      have n2_ := am_ (below_step bg_ hb)
      clear BK1001
      clear HB
      have HO1007 := n0_
      have BK1001 := n1_
      have HB := n2_
      clear n0_ n1_ n2_
      clear hb ho29
      obtain ⟨Ao30, co30, eo30⟩ := Kd.R_slice HO1007.out
      (first | subst eo30 | (injection eo30 with f1_ f2_ f3_; have f4_ := f1_.symm; have f5_ := f3_.symm; clear f1_ f2_ f3_; subst f4_; subst f5_))
      refine hK.out _ _ ⟨(blk_cell BK1001.out 0).trans rfl, (blk_cell BK1001.out 1).trans rfl, (blk_cell BK1001.out 2).trans rfl, (blk_cell BK1001.out 3).trans rfl, (blk_cell BK1001.out 4).trans rfl, (blk_cell BK1001.out 5).trans rfl, (blk_cell BK1001.out 6).trans rfl⟩ (fun hHeld => ?_)
      clear hK K
      refine norm_ (a' := ?_) ?_ ?_
      rotate_left
      ·show Act.put _ (some 36) _ = _
       simp only [Act.put, List.setIfInBounds_toArray, List.set_cons_zero, List.set_cons_succ, i64_w, i32_w]
       rfl
      refine one_ (i := 2) (N := some 37) (bz 18 63) rfl rfl (one_of HT_.out (by kernel_rfl)) (by decide) (fun K hK => ?_)
      refine goes_ Try.func86 (by kernel_rfl) rfl #[.int .i64 a0_0, .slice Ao30 y1005.length co30] (by rfl) rfl rfl ag_ ?_
      with_reducible refine (impl_isOne.calls kj1 a0_0 _ _ y1005 t1008 _ ?side1 ?side2 A25.out).mono ?_
      (case side1 => exact cc_ (Kd.R_reads' HO1007.out).2.2)
      (case side2 => exact (Kd.R_reads' HO1007.out).2.1)
      rintro e w' ⟨rfl, ⟨nd, rfl⟩⟩
      refine ⟨_, rfl, ?_⟩
      refine hK.out _ _ ⟨(blk_cell BK1001.out 0).trans rfl, (blk_cell BK1001.out 1).trans rfl, (blk_cell BK1001.out 2).trans rfl, (blk_cell BK1001.out 3).trans rfl, (blk_cell BK1001.out 4).trans rfl, (blk_cell BK1001.out 5).trans rfl, (blk_cell BK1001.out 6).trans rfl⟩ (fun hHeld => ?_)
      clear hK K
      refine norm_ (a' := ?_) ?_ ?_
      rotate_left
      ·show Act.put _ (some 37) _ = _
       simp only [Act.put, List.setIfInBounds_toArray, List.set_cons_zero, List.set_cons_succ, i64_w, i32_w]
       rfl
      refine pz_ 6 41 127 ?_
      refine pz_ 7 42 255 ?_
      refine uz_ 8 43 511 ?_
      refine uz_ 9 44 1023 ?_
      refine uz_ 10 45 2047 ?_
      refine uz_ 11 46 4095 ?_
      refine uz_ 12 47 8191 ?_
      refine uz_ 13 48 16383 ?_
      refine uz_ 14 49 32767 ?_
      refine uz_ 15 50 65535 ?_
      refine uz_ 16 51 131071 ?_
      refine pz_ 17 52 262143 ?_
      refine done_ (done_of HT_.out (by kernel_rfl)) ?_
      try go_wp2
      go_meet
      case rel => exact ⟨_, (true), rs_, H', ⟨by have := HJ1.out; first | omega | exact Nat.le_refl _⟩, ⟨vk_ BK1001⟩, ⟨bg_⟩⟩
     ·rw [if_neg c26] at H
      have c26b0 : (t1008 != (a0_4.toList != ([] : List UInt8))) = false := by simpa using c26
      (try (have c26b1 : decide (t1008 = (a0_4.toList != ([] : List UInt8))) = true := by simpa using c26))
      (try (have c26b2 : (t1008 == (a0_4.toList != ([] : List UInt8))) = true := by simpa using c26))
      (try (have c26b2n : (t1008 == !a0_4.toList.isEmpty) = true := by rw [← Go.Proofs.Ytnnlgbpfdnaalaa.Gt.nil_bne]; exact c26b2))
      clear c26
      (first | rw [c26b0] | (simp only [i64_w, i32_w]; rw [c26b0]) | skip)
      by_cases c31 : a0_4.toList = ([] : List UInt8)
      ·rw [if_pos c31] at H
       have c31b0 : (a0_4.toList == ([] : List UInt8)) = true := beq_iff_eq.mpr c31
       have c31b1 : (a0_4.toList != ([] : List UInt8)) = false := bne_eq_false_iff_eq.mpr c31
       (try (have c31b1_c26b2 : t1008 = true := by have e_ := c26b2; rw [c31b1] at e_; revert e_; cases t1008 <;> simp))
       (try (have c31b1_c26b2 : t1008 = false := by have e_ := c26b2; rw [c31b1] at e_; revert e_; cases t1008 <;> simp))
       clear c31
       have H' := am_ H
       clear H
       try go_wp2
       have n0_ := am_ (blk_drew BK1001.out)
       have n1_ := am_ (below_drew1 HB.out)
       clear BK1001
       clear HB
       have BK1001 := n0_
       have HB := n1_
       clear n0_ n1_
       refine start_ (n := 18) (S := fun w' => w'.cell? ⟨gb1001, 0, none⟩ = some (.int .i64 a0_0) ∧ w'.cell? ⟨gb1001, 1, none⟩ = some (.slice A0_1 l0_1.length c0_1) ∧ w'.cell? ⟨gb1001, 2, none⟩ = some (.string a0_2) ∧ w'.cell? ⟨gb1001, 3, none⟩ = some (.string a0_3) ∧ w'.cell? ⟨gb1001, 4, none⟩ = some (.string a0_4) ∧ w'.cell? ⟨gb1001, 5, none⟩ = some (.string a0_5) ∧ w'.cell? ⟨gb1001, 6, none⟩ = some (.int .i64 a0_6)) (ds := []) (bz 18 0) (by kernel_rfl) rfl rfl ⟨(blk_cell BK1001.out 0).trans rfl, (blk_cell BK1001.out 1).trans rfl, (blk_cell BK1001.out 2).trans rfl, (blk_cell BK1001.out 3).trans rfl, (blk_cell BK1001.out 4).trans rfl, (blk_cell BK1001.out 5).trans rfl, (blk_cell BK1001.out 6).trans rfl⟩ (fun hHeld => ?_); refine with_tabW impl_GoodRelabel.tab4 impl_GoodRelabel.bits4 (fun HT_ HW_ => ?_)
       generalize wc.drew = w32 at BK1001 HB hHeld ⊢
       refine pz_ 0 35 1 ?_
       refine pz_ 3 38 9 ?_
       refine tz_ 4 39 25 ?_
       refine pz_ 5 40 57 ?_
       refine one_ (i := 1) (N := some 36) (bz 18 59) rfl rfl (one_of HT_.out (by kernel_rfl)) (by decide) (fun K hK => ?_)
       refine Kd.R_lit_step (Kd.int .i64) _ 3 ?hg (N := 36) ?hd (xs := ([3, 4, 8] : List Int)) (inner := [.int .i64 3, .int .i64 4, .int .i64 8]) (ok := fun _ => True) (okp := fun _ => True) ?hr ?hp (fun _ hk => hk) trivial (Below.refl _ _) (Nat.le_refl _) (by simp) ?_; (case hd => rfl); (case hg => rfl); (case hr => first | (go_simp; done) | (go_simp; rfl)); (case hp => exact (Reps.one (show Kd.M (Kd.int .i64) _ _ _ 3 [.int .i64 3] from rfl) (Reps.one (show Kd.M (Kd.int .i64) _ _ _ 4 [.int .i64 4] from rfl) (Reps.one (show Kd.M (Kd.int .i64) _ _ _ 8 [.int .i64 8] from rfl) (Reps.none _ _)))))
       intro v1006 w33 ho34 hb hg_ hnew_
       clear hg_ hnew_
       (first | rw [← Ny1005.out] at ho34 | (simp only [Int.reduceToNat] at ho34; rw [← Ny1005.out] at ho34))
       have n0_ := am_ (Kd.R_lower ho34 (below_size bg_))
       have n1_ := am_ (blk_below (g := gb1001) (vk_ BK1001) hb)
       have n2_ := am_ (below_step bg_ hb)
       clear BK1001
       clear HB
       have HO1007 := n0_
       have BK1001 := n1_
       have HB := n2_
       clear n0_ n1_ n2_
       clear hb ho34
       obtain ⟨Ao35, co35, eo35⟩ := Kd.R_slice HO1007.out
       (first | subst eo35 | (injection eo35 with f1_ f2_ f3_; have f4_ := f1_.symm; have f5_ := f3_.symm; clear f1_ f2_ f3_; subst f4_; subst f5_))
       refine hK.out _ _ ⟨(blk_cell BK1001.out 0).trans rfl, (blk_cell BK1001.out 1).trans rfl, (blk_cell BK1001.out 2).trans rfl, (blk_cell BK1001.out 3).trans rfl, (blk_cell BK1001.out 4).trans rfl, (blk_cell BK1001.out 5).trans rfl, (blk_cell BK1001.out 6).trans rfl⟩ (fun hHeld => ?_)
       clear hK K
       refine norm_ (a' := ?_) ?_ ?_
       rotate_left
       ·show Act.put _ (some 36) _ = _
        simp only [Act.put, List.setIfInBounds_toArray, List.set_cons_zero, List.set_cons_succ, i64_w, i32_w]
        rfl
       refine one_ (i := 2) (N := some 37) (bz 18 63) rfl rfl (one_of HT_.out (by kernel_rfl)) (by decide) (fun K hK => ?_)
       refine goes_ Try.func86 (by kernel_rfl) rfl #[.int .i64 a0_0, .slice Ao35 y1005.length co35] (by rfl) rfl rfl ag_ ?_
       with_reducible refine (impl_isOne.calls kj1 a0_0 _ _ y1005 t1008 _ ?side1 ?side2 A25.out).mono ?_
       (case side1 => exact cc_ (Kd.R_reads' HO1007.out).2.2)
       (case side2 => exact (Kd.R_reads' HO1007.out).2.1)
       rintro e w' ⟨rfl, ⟨nd, rfl⟩⟩
       refine ⟨_, rfl, ?_⟩
       refine hK.out _ _ ⟨(blk_cell BK1001.out 0).trans rfl, (blk_cell BK1001.out 1).trans rfl, (blk_cell BK1001.out 2).trans rfl, (blk_cell BK1001.out 3).trans rfl, (blk_cell BK1001.out 4).trans rfl, (blk_cell BK1001.out 5).trans rfl, (blk_cell BK1001.out 6).trans rfl⟩ (fun hHeld => ?_)
       clear hK K
       refine norm_ (a' := ?_) ?_ ?_
       rotate_left
       ·show Act.put _ (some 37) _ = _
        simp only [Act.put, List.setIfInBounds_toArray, List.set_cons_zero, List.set_cons_succ, i64_w, i32_w]
        rfl
       refine pz_ 6 41 127 ?_
       refine pz_ 7 42 255 ?_
       refine pz_ 8 43 511 ?_
       refine tz_ 9 44 1023 ?_
       refine pz_ 10 45 2047 ?_
       refine pz_ 11 46 4095 ?_
       refine uz_ 12 47 8191 ?_
       refine uz_ 13 48 16383 ?_
       refine uz_ 14 49 32767 ?_
       refine uz_ 15 50 65535 ?_
       refine pz_ 16 51 131071 ?_
       refine pz_ 17 52 262143 ?_
       refine done_ (done_of HT_.out (by kernel_rfl)) ?_
       try go_wp2
       go_meet
       case rel => exact ⟨_, (false), rs_, H', ⟨by have := HJ1.out; first | omega | exact Nat.le_refl _⟩, ⟨vk_ BK1001⟩, ⟨bg_⟩⟩
      ·rw [if_neg c31] at H
       have c31b0 : (a0_4.toList == ([] : List UInt8)) = false := beq_eq_false_iff_ne.mpr c31
       have c31b1 : (a0_4.toList != ([] : List UInt8)) = true := bne_iff_ne.mpr c31
       (try (have c31b1_c26b2 : t1008 = true := by have e_ := c26b2; rw [c31b1] at e_; revert e_; cases t1008 <;> simp))
       (try (have c31b1_c26b2 : t1008 = false := by have e_ := c26b2; rw [c31b1] at e_; revert e_; cases t1008 <;> simp))
       replace H := Option.bind_eq_some_iff.mp H
       obtain ⟨t1009, A360, H⟩ := H
       replace H : (impl_GoodRelabel.j1 kj1 a0_0 (!t1009) a0_0 l0_1 a0_2 a0_3 a0_4 a0_5 a0_6) = some r := H
       have A36 := am_ A360
       clear A360
       have H' := am_ H
       clear H
       try go_wp2
       have n0_ := am_ (blk_drew BK1001.out)
       have n1_ := am_ (below_drew1 HB.out)
       clear BK1001
       clear HB
       have BK1001 := n0_
       have HB := n1_
       clear n0_ n1_
       refine start_ (n := 18) (S := fun w' => w'.cell? ⟨gb1001, 0, none⟩ = some (.int .i64 a0_0) ∧ w'.cell? ⟨gb1001, 1, none⟩ = some (.slice A0_1 l0_1.length c0_1) ∧ w'.cell? ⟨gb1001, 2, none⟩ = some (.string a0_2) ∧ w'.cell? ⟨gb1001, 3, none⟩ = some (.string a0_3) ∧ w'.cell? ⟨gb1001, 4, none⟩ = some (.string a0_4) ∧ w'.cell? ⟨gb1001, 5, none⟩ = some (.string a0_5) ∧ w'.cell? ⟨gb1001, 6, none⟩ = some (.int .i64 a0_6)) (ds := []) (bz 18 0) (by kernel_rfl) rfl rfl ⟨(blk_cell BK1001.out 0).trans rfl, (blk_cell BK1001.out 1).trans rfl, (blk_cell BK1001.out 2).trans rfl, (blk_cell BK1001.out 3).trans rfl, (blk_cell BK1001.out 4).trans rfl, (blk_cell BK1001.out 5).trans rfl, (blk_cell BK1001.out 6).trans rfl⟩ (fun hHeld => ?_); refine with_tabW impl_GoodRelabel.tab4 impl_GoodRelabel.bits4 (fun HT_ HW_ => ?_)
       generalize wc.drew = w37 at BK1001 HB hHeld ⊢
       refine pz_ 0 35 1 ?_
       refine pz_ 3 38 9 ?_
       refine tz_ 4 39 25 ?_
       refine pz_ 5 40 57 ?_
       refine one_ (i := 1) (N := some 36) (bz 18 59) rfl rfl (one_of HT_.out (by kernel_rfl)) (by decide) (fun K hK => ?_)
       refine Kd.R_lit_step (Kd.int .i64) _ 3 ?hg (N := 36) ?hd (xs := ([3, 4, 8] : List Int)) (inner := [.int .i64 3, .int .i64 4, .int .i64 8]) (ok := fun _ => True) (okp := fun _ => True) ?hr ?hp (fun _ hk => hk) trivial (Below.refl _ _) (Nat.le_refl _) (by simp) ?_; (case hd => rfl); (case hg => rfl); (case hr => first | (go_simp; done) | (go_simp; rfl)); (case hp => exact (Reps.one (show Kd.M (Kd.int .i64) _ _ _ 3 [.int .i64 3] from rfl) (Reps.one (show Kd.M (Kd.int .i64) _ _ _ 4 [.int .i64 4] from rfl) (Reps.one (show Kd.M (Kd.int .i64) _ _ _ 8 [.int .i64 8] from rfl) (Reps.none _ _)))))
       intro v1006 w38 ho39 hb hg_ hnew_
       clear hg_ hnew_
       (first | rw [← Ny1005.out] at ho39 | (simp only [Int.reduceToNat] at ho39; rw [← Ny1005.out] at ho39))
       have n0_ := am_ (Kd.R_lower ho39 (below_size bg_))
       have n1_ := am_ (blk_below (g := gb1001) (vk_ BK1001) hb)
       have n2_ := am_ (below_step bg_ hb)
       clear BK1001
       clear HB
       have HO1007 := n0_
       have BK1001 := n1_
       have HB := n2_
       clear n0_ n1_ n2_
       clear hb ho39
       obtain ⟨Ao40, co40, eo40⟩ := Kd.R_slice HO1007.out
       (first | subst eo40 | (injection eo40 with f1_ f2_ f3_; have f4_ := f1_.symm; have f5_ := f3_.symm; clear f1_ f2_ f3_; subst f4_; subst f5_))
       refine hK.out _ _ ⟨(blk_cell BK1001.out 0).trans rfl, (blk_cell BK1001.out 1).trans rfl, (blk_cell BK1001.out 2).trans rfl, (blk_cell BK1001.out 3).trans rfl, (blk_cell BK1001.out 4).trans rfl, (blk_cell BK1001.out 5).trans rfl, (blk_cell BK1001.out 6).trans rfl⟩ (fun hHeld => ?_)
       clear hK K
       refine norm_ (a' := ?_) ?_ ?_
       rotate_left
       ·show Act.put _ (some 36) _ = _
        simp only [Act.put, List.setIfInBounds_toArray, List.set_cons_zero, List.set_cons_succ, i64_w, i32_w]
        rfl
       refine one_ (i := 2) (N := some 37) (bz 18 63) rfl rfl (one_of HT_.out (by kernel_rfl)) (by decide) (fun K hK => ?_)
       refine goes_ Try.func86 (by kernel_rfl) rfl #[.int .i64 a0_0, .slice Ao40 y1005.length co40] (by rfl) rfl rfl ag_ ?_
       with_reducible refine (impl_isOne.calls kj1 a0_0 _ _ y1005 t1008 _ ?side1 ?side2 A25.out).mono ?_
       (case side1 => exact cc_ (Kd.R_reads' HO1007.out).2.2)
       (case side2 => exact (Kd.R_reads' HO1007.out).2.1)
       rintro e w' ⟨rfl, ⟨nd, rfl⟩⟩
       refine ⟨_, rfl, ?_⟩
       refine hK.out _ _ ⟨(blk_cell BK1001.out 0).trans rfl, (blk_cell BK1001.out 1).trans rfl, (blk_cell BK1001.out 2).trans rfl, (blk_cell BK1001.out 3).trans rfl, (blk_cell BK1001.out 4).trans rfl, (blk_cell BK1001.out 5).trans rfl, (blk_cell BK1001.out 6).trans rfl⟩ (fun hHeld => ?_)
       clear hK K
       refine norm_ (a' := ?_) ?_ ?_
       rotate_left
       ·show Act.put _ (some 37) _ = _
        simp only [Act.put, List.setIfInBounds_toArray, List.set_cons_zero, List.set_cons_succ, i64_w, i32_w]
        rfl
       refine pz_ 6 41 127 ?_
       refine pz_ 7 42 255 ?_
       refine pz_ 8 43 511 ?_
       refine tz_ 9 44 1023 ?_
       refine pz_ 10 45 2047 ?_
       refine pz_ 11 46 4095 ?_
       refine pz_ 12 47 8191 ?_
       refine tz_ 13 48 16383 ?_
       refine one_ (i := 14) (N := some 49) (bz 18 32767) rfl rfl (one_of HT_.out (by kernel_rfl)) (by decide) (fun K hK => ?_)
       refine goes_ Try.func83 (by kernel_rfl) rfl #[.string a0_4] (by rfl) rfl rfl ag_ ?_
       with_reducible refine (impl_isName.calls kj1 a0_4 t1009 _ A36.out).mono ?_
       rintro e w' ⟨rfl, ⟨nd, rfl⟩⟩
       refine ⟨_, rfl, ?_⟩
       refine hK.out _ _ ⟨(blk_cell BK1001.out 0).trans rfl, (blk_cell BK1001.out 1).trans rfl, (blk_cell BK1001.out 2).trans rfl, (blk_cell BK1001.out 3).trans rfl, (blk_cell BK1001.out 4).trans rfl, (blk_cell BK1001.out 5).trans rfl, (blk_cell BK1001.out 6).trans rfl⟩ (fun hHeld => ?_)
       clear hK K
       refine norm_ (a' := ?_) ?_ ?_
       rotate_left
       ·show Act.put _ (some 49) _ = _
        simp only [Act.put, List.setIfInBounds_toArray, List.set_cons_zero, List.set_cons_succ, i64_w, i32_w]
        rfl
       refine pz_ 15 50 65535 ?_
       refine pz_ 16 51 131071 ?_
       refine pz_ 17 52 262143 ?_
       refine done_ (done_of HT_.out (by kernel_rfl)) ?_
       try go_wp2
       go_meet
       case rel => exact ⟨_, (!t1009), rs_, H', ⟨by have := HJ1.out; first | omega | exact Nat.le_refl _⟩, ⟨vk_ BK1001⟩, ⟨bg_⟩⟩
    case rest =>
     clear HC24
     try clear c2
     try clear p2
     try clear c3
     try clear c8
     try clear c23
     try clear c26
     try clear c26b0
     try clear c26b1
     try clear c26b2
     try clear c31
     try clear c31b0
     try clear c31b1
     try clear hfz18_1
     try clear hfz18_2
     try clear hfz18_3
     try clear hfz18_4
     try clear hfz18_5
     try clear hfz18_6
     try clear hfz20_0
     try clear hfz20_1
     try clear hfz20_2
     try clear hfz20_3
     try clear hfz20_4
     try clear hfz20_5
     try clear hfz20_6
     try clear hfz22_0
     try clear hfz22_1
     try clear hfz22_2
     try clear hfz22_3
     try clear hfz22_4
     try clear hfz22_5
     try clear hfz22_6
     try clear hfz4_0
     try clear hfz4_1
     try clear hfz4_2
     try clear hfz4_3
     try clear hfz4_4
     try clear hfz4_5
     try clear hfz4_6
     try clear hfz8_0
     try clear hfz8_1
     try clear hfz8_2
     try clear hfz8_3
     try clear hfz8_4
     try clear hfz8_5
     try clear hfz8_6
     obtain ⟨kq, x52_23, rfl, HA, HJ23, BK1001, HB⟩ := hcut
     cases kq with
     | zero => exact absurd HA.out (by simp [impl_GoodRelabel.j1])
     | succ kj23 =>
      have H := HA.out
      clear HA
      simp only [impl_GoodRelabel.j1] at H
      by_cases c41 : x52_23 = true
      ·subst c41
       have H1 : (some false) = some r := by rw [if_pos rfl] at H; exact H
       clear H
       have H := H1
       clear H1
       obtain rfl := Option.some.inj H
       go_wp2
       go_ret
       exact ⟨rf_, bg_⟩
      ·replace c41 := Bool.eq_false_iff.mpr c41
       subst c41
       have H1 : ((impl_isFilling.f kj23 a0_5).bind fun t1010 => (if t1010 = true then (if a0_5.toList = ([] : List UInt8) then (impl_GoodRelabel.j2 kj23 a0_0 false a0_0 l0_1 a0_2 a0_3 a0_4 a0_5 a0_6) else ((impl_isOne.f kj23 a0_0 (([3, 5] : List Int))).bind fun t1014 => (impl_GoodRelabel.j2 kj23 a0_0 (!t1014) a0_0 l0_1 a0_2 a0_3 a0_4 a0_5 a0_6))) else (impl_GoodRelabel.j2 kj23 a0_0 true a0_0 l0_1 a0_2 a0_3 a0_4 a0_5 a0_6))) = some r := by rw [if_neg (show ¬ (false = true) by decide)] at H; exact H
       clear H
       have H := H1
       clear H1
       have HC42 := am_ H
       clear H
       go_upto_region 6 with (fail)
       go_cut [67] (fun v67 wc => ∃ (kq : Nat) (x67_41 : Bool), v67 = .bool x67_41 ∧ Aside0 (impl_GoodRelabel.j2 kq a0_0 x67_41 a0_0 l0_1 a0_2 a0_3 a0_4 a0_5 a0_6 = some r) ∧ Aside0 (kq ≤ kj23) ∧ Aside0 (wc.heap[gb1001]? = some (.cells #[.int .i64 a0_0, (.slice A0_1 l0_1.length c0_1), .string a0_2, .string a0_3, .string a0_4, .string a0_5, .int .i64 a0_6] 42 (0, 0))) ∧ Aside0 (Below w.heap.size w wc))
       case first =>
        have H := HC42.out
        clear HC42
        replace H := Option.bind_eq_some_iff.mp H
        obtain ⟨t1010, A430, H⟩ := H
        replace H : (if t1010 = true then (if a0_5.toList = ([] : List UInt8) then (impl_GoodRelabel.j2 kj23 a0_0 false a0_0 l0_1 a0_2 a0_3 a0_4 a0_5 a0_6) else ((impl_isOne.f kj23 a0_0 (([3, 5] : List Int))).bind fun t1014 => (impl_GoodRelabel.j2 kj23 a0_0 (!t1014) a0_0 l0_1 a0_2 a0_3 a0_4 a0_5 a0_6))) else (impl_GoodRelabel.j2 kj23 a0_0 true a0_0 l0_1 a0_2 a0_3 a0_4 a0_5 a0_6)) = some r := H
        have A43 := am_ A430
        clear A430
        by_cases c44 : t1010 = true
        ·subst c44
         have H1 : (if a0_5.toList = ([] : List UInt8) then (impl_GoodRelabel.j2 kj23 a0_0 false a0_0 l0_1 a0_2 a0_3 a0_4 a0_5 a0_6) else ((impl_isOne.f kj23 a0_0 (([3, 5] : List Int))).bind fun t1014 => (impl_GoodRelabel.j2 kj23 a0_0 (!t1014) a0_0 l0_1 a0_2 a0_3 a0_4 a0_5 a0_6))) = some r := by rw [if_pos rfl] at H; exact H
         clear H
         have H := H1
         clear H1
         by_cases c45 : a0_5.toList = ([] : List UInt8)
         ·rw [if_pos c45] at H
          have c45b0 : (a0_5.toList == ([] : List UInt8)) = true := beq_iff_eq.mpr c45
          have c45b1 : (a0_5.toList != ([] : List UInt8)) = false := bne_eq_false_iff_eq.mpr c45
          clear c45
          (first | rw [c45b0] | (simp only [i64_w, i32_w]; rw [c45b0]) | skip)
          have H' := am_ H
          clear H
          have hcz46_0 : wc.cell? ⟨gb1001, 0, none⟩ = some (.int .i64 a0_0) := (blk_cell BK1001.out 0).trans rfl
          have hcz46_1 : wc.cell? ⟨gb1001, 1, none⟩ = some (.slice A0_1 l0_1.length c0_1) := (blk_cell BK1001.out 1).trans rfl
          have hcz46_2 : wc.cell? ⟨gb1001, 2, none⟩ = some (.string a0_2) := (blk_cell BK1001.out 2).trans rfl
          have hcz46_3 : wc.cell? ⟨gb1001, 3, none⟩ = some (.string a0_3) := (blk_cell BK1001.out 3).trans rfl
          have hcz46_4 : wc.cell? ⟨gb1001, 4, none⟩ = some (.string a0_4) := (blk_cell BK1001.out 4).trans rfl
          have hcz46_5 : wc.cell? ⟨gb1001, 5, none⟩ = some (.string a0_5) := (blk_cell BK1001.out 5).trans rfl
          have hcz46_6 : wc.cell? ⟨gb1001, 6, none⟩ = some (.int .i64 a0_6) := (blk_cell BK1001.out 6).trans rfl
          have hfz46_0 := bf_ BK1001 0
          have hfz46_1 := bf_ BK1001 1
          have hfz46_2 := bf_ BK1001 2
          have hfz46_3 := bf_ BK1001 3
          have hfz46_4 := bf_ BK1001 4
          have hfz46_5 := bf_ BK1001 5
          have hfz46_6 := bf_ BK1001 6
          go_wp2_with (first | ((with_reducible refine gate_callee (f := 63) rfl ?_); refine goesL_ (some 55) rfl rfl Try.func63 (by kernel_rfl) rfl #[.string a0_5] rfl ag_ ?_; (with_reducible refine (impl_isFilling.calls kj23 a0_5 true _ A43.out).mono ?_); rintro e w' ⟨rfl, ⟨nd, rfl⟩⟩; refine ⟨_, rfl, ?_⟩))
          go_meet
          case rel => exact ⟨_, (false), rs_, H', ⟨by have := HJ1.out; have := HJ23.out; first | omega | exact Nat.le_refl _⟩, ⟨vk_ BK1001⟩, ⟨bg_⟩⟩
         ·rw [if_neg c45] at H
          have c45b0 : (a0_5.toList == ([] : List UInt8)) = false := beq_eq_false_iff_ne.mpr c45
          have c45b1 : (a0_5.toList != ([] : List UInt8)) = true := bne_iff_ne.mpr c45
          (first | rw [c45b0] | (simp only [i64_w, i32_w]; rw [c45b0]) | skip)
          obtain ⟨y1011, hy1011⟩ : ∃ y_ : List Int, y_ = (([3, 5] : List Int)) := ⟨_, rfl⟩
          replace H : ((impl_isOne.f kj23 a0_0 y1011).bind fun t1014 => (impl_GoodRelabel.j2 kj23 a0_0 (!t1014) a0_0 l0_1 a0_2 a0_3 a0_4 a0_5 a0_6)) = some r := by first | (rw [hy1011]; with_reducible exact H) | (have H2_ := (Option.bind_some _ _).symm.trans H; rw [hy1011]; with_reducible exact H2_) | (have H2_ := (Option.bind_some _ _).symm.trans H; with_reducible exact H2_) | with_reducible exact H | (rw [hy1011]; exact H) | exact H
          have Ny1011 := am_ hy1011
          clear hy1011
          replace H := Option.bind_eq_some_iff.mp H
          obtain ⟨t1014, A470, H⟩ := H
          replace H : (impl_GoodRelabel.j2 kj23 a0_0 (!t1014) a0_0 l0_1 a0_2 a0_3 a0_4 a0_5 a0_6) = some r := H
          have A47 := am_ A470
          clear A470
          have H' := am_ H
          clear H
          have hcz48_0 : wc.cell? ⟨gb1001, 0, none⟩ = some (.int .i64 a0_0) := (blk_cell BK1001.out 0).trans rfl
          have hcz48_1 : wc.cell? ⟨gb1001, 1, none⟩ = some (.slice A0_1 l0_1.length c0_1) := (blk_cell BK1001.out 1).trans rfl
          have hcz48_2 : wc.cell? ⟨gb1001, 2, none⟩ = some (.string a0_2) := (blk_cell BK1001.out 2).trans rfl
          have hcz48_3 : wc.cell? ⟨gb1001, 3, none⟩ = some (.string a0_3) := (blk_cell BK1001.out 3).trans rfl
          have hcz48_4 : wc.cell? ⟨gb1001, 4, none⟩ = some (.string a0_4) := (blk_cell BK1001.out 4).trans rfl
          have hcz48_5 : wc.cell? ⟨gb1001, 5, none⟩ = some (.string a0_5) := (blk_cell BK1001.out 5).trans rfl
          have hcz48_6 : wc.cell? ⟨gb1001, 6, none⟩ = some (.int .i64 a0_6) := (blk_cell BK1001.out 6).trans rfl
          have hfz48_0 := bf_ BK1001 0
          have hfz48_1 := bf_ BK1001 1
          have hfz48_2 := bf_ BK1001 2
          have hfz48_3 := bf_ BK1001 3
          have hfz48_4 := bf_ BK1001 4
          have hfz48_5 := bf_ BK1001 5
          have hfz48_6 := bf_ BK1001 6
          go_wp2_with (first | ((with_reducible refine gate_callee (f := 63) rfl ?_); refine goesL_ (some 55) rfl rfl Try.func63 (by kernel_rfl) rfl #[.string a0_5] rfl ag_ ?_; (with_reducible refine (impl_isFilling.calls kj23 a0_5 true _ A43.out).mono ?_); rintro e w' ⟨rfl, ⟨nd, rfl⟩⟩; refine ⟨_, rfl, ?_⟩) | ((with_reducible refine gate_dst (N := 63) rfl ?_); (try (refine gate_guard (by rfl) ?_; dsimp only)); refine Kd.R_lit (Kd.int .i64) _ 3 ?hg (N := 63) ?hd (xs := ([3, 5] : List Int)) (inner := [.int .i64 3, .int .i64 5]) (ok := fun _ => True) (okp := fun _ => True) ?hr ?hp (fun _ hk => hk) trivial (Below.refl _ _) (Nat.le_refl _) (by simp) ?_; (case hd => rfl); (case hg => rfl); (case hr => first | (go_simp; done) | (go_simp; rfl)); (case hp => exact (Reps.one (show Kd.M (Kd.int .i64) _ _ _ 3 [.int .i64 3] from rfl) (Reps.one (show Kd.M (Kd.int .i64) _ _ _ 5 [.int .i64 5] from rfl) (Reps.none _ _)))); intro v1012 w49 ho50 hb hg_ hnew_; clear hg_ hnew_; (first | rw [← Ny1011.out] at ho50 | (simp only [Int.reduceToNat] at ho50; rw [← Ny1011.out] at ho50)); have n0_ := am_ (Kd.R_lower ho50 (below_size bg_)); have n1_ := am_ (blk_below (g := gb1001) (vk_ BK1001) hb); have n2_ := am_ (below_step bg_ hb); clear BK1001; clear HB; have HO1013 := n0_; have BK1001 := n1_; have HB := n2_; clear n0_ n1_ n2_; clear hb ho50; obtain ⟨Ao51, co51, eo51⟩ := Kd.R_slice HO1013.out; subst eo51) | (go_at_call 86; (with_reducible refine (impl_isOne.calls kj23 a0_0 _ _ y1011 t1014 _ ?side1 ?side2 A47.out).mono ?_); (case side1 => exact cc_ (Kd.R_reads' HO1013.out).2.2); (case side2 => exact (Kd.R_reads' HO1013.out).2.1); rintro e w' ⟨rfl, ⟨nd, rfl⟩⟩))
          go_meet
          case rel => exact ⟨_, (!t1014), rs_, H', ⟨by have := HJ1.out; have := HJ23.out; first | omega | exact Nat.le_refl _⟩, ⟨vk_ BK1001⟩, ⟨bg_⟩⟩
        ·replace c44 := Bool.eq_false_iff.mpr c44
         subst c44
         have H1 : (impl_GoodRelabel.j2 kj23 a0_0 true a0_0 l0_1 a0_2 a0_3 a0_4 a0_5 a0_6) = some r := by rw [if_neg (show ¬ (false = true) by decide)] at H; exact H
         clear H
         have H := H1
         clear H1
         have H' := am_ H
         clear H
         have hcz52_0 : wc.cell? ⟨gb1001, 0, none⟩ = some (.int .i64 a0_0) := (blk_cell BK1001.out 0).trans rfl
         have hcz52_1 : wc.cell? ⟨gb1001, 1, none⟩ = some (.slice A0_1 l0_1.length c0_1) := (blk_cell BK1001.out 1).trans rfl
         have hcz52_2 : wc.cell? ⟨gb1001, 2, none⟩ = some (.string a0_2) := (blk_cell BK1001.out 2).trans rfl
         have hcz52_3 : wc.cell? ⟨gb1001, 3, none⟩ = some (.string a0_3) := (blk_cell BK1001.out 3).trans rfl
         have hcz52_4 : wc.cell? ⟨gb1001, 4, none⟩ = some (.string a0_4) := (blk_cell BK1001.out 4).trans rfl
         have hcz52_5 : wc.cell? ⟨gb1001, 5, none⟩ = some (.string a0_5) := (blk_cell BK1001.out 5).trans rfl
         have hcz52_6 : wc.cell? ⟨gb1001, 6, none⟩ = some (.int .i64 a0_6) := (blk_cell BK1001.out 6).trans rfl
         have hfz52_0 := bf_ BK1001 0
         have hfz52_1 := bf_ BK1001 1
         have hfz52_2 := bf_ BK1001 2
         have hfz52_3 := bf_ BK1001 3
         have hfz52_4 := bf_ BK1001 4
         have hfz52_5 := bf_ BK1001 5
         have hfz52_6 := bf_ BK1001 6
         go_wp2_with (first | ((with_reducible refine gate_callee (f := 63) rfl ?_); refine goesL_ (some 55) rfl rfl Try.func63 (by kernel_rfl) rfl #[.string a0_5] rfl ag_ ?_; (with_reducible refine (impl_isFilling.calls kj23 a0_5 false _ A43.out).mono ?_); rintro e w' ⟨rfl, ⟨nd, rfl⟩⟩; refine ⟨_, rfl, ?_⟩))
         go_meet
         case rel => exact ⟨_, (true), rs_, H', ⟨by have := HJ1.out; have := HJ23.out; first | omega | exact Nat.le_refl _⟩, ⟨vk_ BK1001⟩, ⟨bg_⟩⟩
       case rest =>
        clear HC42
        try clear c2
        try clear p2
        try clear c3
        try clear c4
        try clear c6
        try clear c8
        try clear c23
        try clear c26
        try clear c26b0
        try clear c26b1
        try clear c26b2
        try clear c31
        try clear c31b0
        try clear c31b1
        try clear c41
        try clear c44
        try clear c45
        try clear c45b0
        try clear c45b1
        try clear hcz46_0
        try clear hcz46_1
        try clear hcz46_2
        try clear hcz46_3
        try clear hcz46_4
        try clear hcz46_5
        try clear hcz46_6
        try clear hcz48_0
        try clear hcz48_1
        try clear hcz48_2
        try clear hcz48_3
        try clear hcz48_4
        try clear hcz48_5
        try clear hcz48_6
        try clear hcz52_0
        try clear hcz52_1
        try clear hcz52_2
        try clear hcz52_3
        try clear hcz52_4
        try clear hcz52_5
        try clear hcz52_6
        try clear hfz18_1
        try clear hfz18_2
        try clear hfz18_3
        try clear hfz18_4
        try clear hfz18_5
        try clear hfz18_6
        try clear hfz20_0
        try clear hfz20_1
        try clear hfz20_2
        try clear hfz20_3
        try clear hfz20_4
        try clear hfz20_5
        try clear hfz20_6
        try clear hfz22_0
        try clear hfz22_1
        try clear hfz22_2
        try clear hfz22_3
        try clear hfz22_4
        try clear hfz22_5
        try clear hfz22_6
        try clear hfz46_0
        try clear hfz46_1
        try clear hfz46_2
        try clear hfz46_3
        try clear hfz46_4
        try clear hfz46_5
        try clear hfz46_6
        try clear hfz48_0
        try clear hfz48_1
        try clear hfz48_2
        try clear hfz48_3
        try clear hfz48_4
        try clear hfz48_5
        try clear hfz48_6
        try clear hfz4_0
        try clear hfz4_1
        try clear hfz4_2
        try clear hfz4_3
        try clear hfz4_4
        try clear hfz4_5
        try clear hfz4_6
        try clear hfz52_0
        try clear hfz52_1
        try clear hfz52_2
        try clear hfz52_3
        try clear hfz52_4
        try clear hfz52_5
        try clear hfz52_6
        try clear hfz8_0
        try clear hfz8_1
        try clear hfz8_2
        try clear hfz8_3
        try clear hfz8_4
        try clear hfz8_5
        try clear hfz8_6
        try clear p2
        obtain ⟨kq, x67_41, rfl, HA, HJ41, BK1001, HB⟩ := hcut
        cases kq with
        | zero => exact absurd HA.out (by simp [impl_GoodRelabel.j2])
        | succ kj41 =>
         have H := HA.out
         clear HA
         simp only [impl_GoodRelabel.j2] at H
         by_cases c53 : x67_41 = true
         ·subst c53
          have H1 : (some false) = some r := by rw [if_pos rfl] at H; exact H
          clear H
          have H := H1
          clear H1
          obtain rfl := Option.some.inj H
          go_wp2
          go_ret
          exact ⟨rf_, bg_⟩
         ·replace c53 := Bool.eq_false_iff.mpr c53
          subst c53
          have H1 : (if a0_0 = 4 then (if a0_6 < 1 then (impl_GoodRelabel.j3 kj41 a0_0 true a0_0 l0_1 a0_2 a0_3 a0_4 a0_5 a0_6) else (if a0_6 > 1000 then (impl_GoodRelabel.j3 kj41 a0_0 true a0_0 l0_1 a0_2 a0_3 a0_4 a0_5 a0_6) else (impl_GoodRelabel.j3 kj41 a0_0 false a0_0 l0_1 a0_2 a0_3 a0_4 a0_5 a0_6))) else (impl_GoodRelabel.j3 kj41 a0_0 (a0_6 != 0) a0_0 l0_1 a0_2 a0_3 a0_4 a0_5 a0_6)) = some r := by rw [if_neg (show ¬ (false = true) by decide)] at H; exact H
          clear H
          have H := H1
          clear H1
          have HC54 := am_ H
          clear H
          go_upto_region 8 with (fail)
          go_cut [88] (fun v88 wc => ∃ (kq : Nat) (x88_53 : Bool), v88 = .bool x88_53 ∧ Aside0 (impl_GoodRelabel.j3 kq a0_0 x88_53 a0_0 l0_1 a0_2 a0_3 a0_4 a0_5 a0_6 = some r) ∧ Aside0 (kq ≤ kj41) ∧ Aside0 (wc.heap[gb1001]? = some (.cells #[.int .i64 a0_0, (.slice A0_1 l0_1.length c0_1), .string a0_2, .string a0_3, .string a0_4, .string a0_5, .int .i64 a0_6] 42 (0, 0))) ∧ Aside0 (Below w.heap.size w wc))
          case first =>
           have H := HC54.out
           clear HC54
           by_cases c55 : a0_0 = 4
           ·rw [if_pos c55] at H
            have c55b0 : (a0_0 == 4) = true := beq_iff_eq.mpr c55
            have c55b1 : (a0_0 != 4) = false := bne_eq_false_iff_eq.mpr c55
            clear c55
            (first | rw [c55b0] | (simp only [i64_w, i32_w]; rw [c55b0]) | skip)
            by_cases c56 : a0_6 < 1
            ·rw [if_pos c56] at H
             have c56b0 : decide (a0_6 < 1) = true := decide_eq_true c56
             clear c56
             have H' := am_ H
             clear H
             have hcz57_0 : wc.cell? ⟨gb1001, 0, none⟩ = some (.int .i64 a0_0) := (blk_cell BK1001.out 0).trans rfl
             have hcz57_1 : wc.cell? ⟨gb1001, 1, none⟩ = some (.slice A0_1 l0_1.length c0_1) := (blk_cell BK1001.out 1).trans rfl
             have hcz57_2 : wc.cell? ⟨gb1001, 2, none⟩ = some (.string a0_2) := (blk_cell BK1001.out 2).trans rfl
             have hcz57_3 : wc.cell? ⟨gb1001, 3, none⟩ = some (.string a0_3) := (blk_cell BK1001.out 3).trans rfl
             have hcz57_4 : wc.cell? ⟨gb1001, 4, none⟩ = some (.string a0_4) := (blk_cell BK1001.out 4).trans rfl
             have hcz57_5 : wc.cell? ⟨gb1001, 5, none⟩ = some (.string a0_5) := (blk_cell BK1001.out 5).trans rfl
             have hcz57_6 : wc.cell? ⟨gb1001, 6, none⟩ = some (.int .i64 a0_6) := (blk_cell BK1001.out 6).trans rfl
             have hfz57_0 := bf_ BK1001 0
             have hfz57_1 := bf_ BK1001 1
             have hfz57_2 := bf_ BK1001 2
             have hfz57_3 := bf_ BK1001 3
             have hfz57_4 := bf_ BK1001 4
             have hfz57_5 := bf_ BK1001 5
             have hfz57_6 := bf_ BK1001 6
             go_wp2
             go_meet
             case rel => exact ⟨_, (true), rs_, H', ⟨by have := HJ1.out; have := HJ23.out; have := HJ41.out; first | omega | exact Nat.le_refl _⟩, ⟨vk_ BK1001⟩, ⟨bg_⟩⟩
            ·rw [if_neg c56] at H
             have c56b0 : decide (a0_6 < 1) = false := decide_eq_false c56
             clear c56
             by_cases c58 : a0_6 > 1000
             ·rw [if_pos c58] at H
              have c58b0 : decide (1000 < a0_6) = true := decide_eq_true c58
              clear c58
              have H' := am_ H
              clear H
              have hcz59_0 : wc.cell? ⟨gb1001, 0, none⟩ = some (.int .i64 a0_0) := (blk_cell BK1001.out 0).trans rfl
              have hcz59_1 : wc.cell? ⟨gb1001, 1, none⟩ = some (.slice A0_1 l0_1.length c0_1) := (blk_cell BK1001.out 1).trans rfl
              have hcz59_2 : wc.cell? ⟨gb1001, 2, none⟩ = some (.string a0_2) := (blk_cell BK1001.out 2).trans rfl
              have hcz59_3 : wc.cell? ⟨gb1001, 3, none⟩ = some (.string a0_3) := (blk_cell BK1001.out 3).trans rfl
              have hcz59_4 : wc.cell? ⟨gb1001, 4, none⟩ = some (.string a0_4) := (blk_cell BK1001.out 4).trans rfl
              have hcz59_5 : wc.cell? ⟨gb1001, 5, none⟩ = some (.string a0_5) := (blk_cell BK1001.out 5).trans rfl
              have hcz59_6 : wc.cell? ⟨gb1001, 6, none⟩ = some (.int .i64 a0_6) := (blk_cell BK1001.out 6).trans rfl
              have hfz59_0 := bf_ BK1001 0
              have hfz59_1 := bf_ BK1001 1
              have hfz59_2 := bf_ BK1001 2
              have hfz59_3 := bf_ BK1001 3
              have hfz59_4 := bf_ BK1001 4
              have hfz59_5 := bf_ BK1001 5
              have hfz59_6 := bf_ BK1001 6
              go_wp2
              go_meet
              case rel => exact ⟨_, (true), rs_, H', ⟨by have := HJ1.out; have := HJ23.out; have := HJ41.out; first | omega | exact Nat.le_refl _⟩, ⟨vk_ BK1001⟩, ⟨bg_⟩⟩
             ·rw [if_neg c58] at H
              have c58b0 : decide (1000 < a0_6) = false := decide_eq_false c58
              clear c58
              have H' := am_ H
              clear H
              have hcz60_0 : wc.cell? ⟨gb1001, 0, none⟩ = some (.int .i64 a0_0) := (blk_cell BK1001.out 0).trans rfl
              have hcz60_1 : wc.cell? ⟨gb1001, 1, none⟩ = some (.slice A0_1 l0_1.length c0_1) := (blk_cell BK1001.out 1).trans rfl
              have hcz60_2 : wc.cell? ⟨gb1001, 2, none⟩ = some (.string a0_2) := (blk_cell BK1001.out 2).trans rfl
              have hcz60_3 : wc.cell? ⟨gb1001, 3, none⟩ = some (.string a0_3) := (blk_cell BK1001.out 3).trans rfl
              have hcz60_4 : wc.cell? ⟨gb1001, 4, none⟩ = some (.string a0_4) := (blk_cell BK1001.out 4).trans rfl
              have hcz60_5 : wc.cell? ⟨gb1001, 5, none⟩ = some (.string a0_5) := (blk_cell BK1001.out 5).trans rfl
              have hcz60_6 : wc.cell? ⟨gb1001, 6, none⟩ = some (.int .i64 a0_6) := (blk_cell BK1001.out 6).trans rfl
              have hfz60_0 := bf_ BK1001 0
              have hfz60_1 := bf_ BK1001 1
              have hfz60_2 := bf_ BK1001 2
              have hfz60_3 := bf_ BK1001 3
              have hfz60_4 := bf_ BK1001 4
              have hfz60_5 := bf_ BK1001 5
              have hfz60_6 := bf_ BK1001 6
              go_wp2
              go_meet
              case rel => exact ⟨_, (false), rs_, H', ⟨by have := HJ1.out; have := HJ23.out; have := HJ41.out; first | omega | exact Nat.le_refl _⟩, ⟨vk_ BK1001⟩, ⟨bg_⟩⟩
           ·rw [if_neg c55] at H
            have c55b0 : (a0_0 == 4) = false := beq_eq_false_iff_ne.mpr c55
            have c55b1 : (a0_0 != 4) = true := bne_iff_ne.mpr c55
            (first | rw [c55b0] | (simp only [i64_w, i32_w]; rw [c55b0]) | skip)
            have H' := am_ H
            clear H
            have hcz61_0 : wc.cell? ⟨gb1001, 0, none⟩ = some (.int .i64 a0_0) := (blk_cell BK1001.out 0).trans rfl
            have hcz61_1 : wc.cell? ⟨gb1001, 1, none⟩ = some (.slice A0_1 l0_1.length c0_1) := (blk_cell BK1001.out 1).trans rfl
            have hcz61_2 : wc.cell? ⟨gb1001, 2, none⟩ = some (.string a0_2) := (blk_cell BK1001.out 2).trans rfl
            have hcz61_3 : wc.cell? ⟨gb1001, 3, none⟩ = some (.string a0_3) := (blk_cell BK1001.out 3).trans rfl
            have hcz61_4 : wc.cell? ⟨gb1001, 4, none⟩ = some (.string a0_4) := (blk_cell BK1001.out 4).trans rfl
            have hcz61_5 : wc.cell? ⟨gb1001, 5, none⟩ = some (.string a0_5) := (blk_cell BK1001.out 5).trans rfl
            have hcz61_6 : wc.cell? ⟨gb1001, 6, none⟩ = some (.int .i64 a0_6) := (blk_cell BK1001.out 6).trans rfl
            have hfz61_0 := bf_ BK1001 0
            have hfz61_1 := bf_ BK1001 1
            have hfz61_2 := bf_ BK1001 2
            have hfz61_3 := bf_ BK1001 3
            have hfz61_4 := bf_ BK1001 4
            have hfz61_5 := bf_ BK1001 5
            have hfz61_6 := bf_ BK1001 6
            go_wp2
            go_meet
            case rel => exact ⟨_, ((a0_6 != 0)), rs_, H', ⟨by have := HJ1.out; have := HJ23.out; have := HJ41.out; first | omega | exact Nat.le_refl _⟩, ⟨vk_ BK1001⟩, ⟨bg_⟩⟩
          case rest =>
           clear HC54
           try clear c2
           try clear p2
           try clear c3
           try clear c4
           try clear c5
           try clear c6
           try clear c8
           try clear c23
           try clear c26
           try clear c26b0
           try clear c26b1
           try clear c26b2
           try clear c31
           try clear c31b0
           try clear c31b1
           try clear c41
           try clear c44
           try clear c45
           try clear c45b0
           try clear c45b1
           try clear c53
           try clear c55
           try clear c55b0
           try clear c55b1
           try clear c56
           try clear c56b0
           try clear c58
           try clear c58b0
           try clear hcz46_0
           try clear hcz46_1
           try clear hcz46_2
           try clear hcz46_3
           try clear hcz46_4
           try clear hcz46_5
           try clear hcz46_6
           try clear hcz48_0
           try clear hcz48_1
           try clear hcz48_2
           try clear hcz48_3
           try clear hcz48_4
           try clear hcz48_5
           try clear hcz48_6
           try clear hcz52_0
           try clear hcz52_1
           try clear hcz52_2
           try clear hcz52_3
           try clear hcz52_4
           try clear hcz52_5
           try clear hcz52_6
           try clear hcz57_0
           try clear hcz57_1
           try clear hcz57_2
           try clear hcz57_3
           try clear hcz57_4
           try clear hcz57_5
           try clear hcz57_6
           try clear hcz59_0
           try clear hcz59_1
           try clear hcz59_2
           try clear hcz59_3
           try clear hcz59_4
           try clear hcz59_5
           try clear hcz59_6
           try clear hcz60_0
           try clear hcz60_1
           try clear hcz60_2
           try clear hcz60_3
           try clear hcz60_4
           try clear hcz60_5
           try clear hcz60_6
           try clear hcz61_0
           try clear hcz61_1
           try clear hcz61_2
           try clear hcz61_3
           try clear hcz61_4
           try clear hcz61_5
           try clear hcz61_6
           try clear hfz18_1
           try clear hfz18_2
           try clear hfz18_3
           try clear hfz18_4
           try clear hfz18_5
           try clear hfz18_6
           try clear hfz20_0
           try clear hfz20_1
           try clear hfz20_2
           try clear hfz20_3
           try clear hfz20_4
           try clear hfz20_5
           try clear hfz20_6
           try clear hfz22_0
           try clear hfz22_1
           try clear hfz22_2
           try clear hfz22_3
           try clear hfz22_4
           try clear hfz22_5
           try clear hfz22_6
           try clear hfz46_0
           try clear hfz46_1
           try clear hfz46_2
           try clear hfz46_3
           try clear hfz46_4
           try clear hfz46_5
           try clear hfz46_6
           try clear hfz48_0
           try clear hfz48_1
           try clear hfz48_2
           try clear hfz48_3
           try clear hfz48_4
           try clear hfz48_5
           try clear hfz48_6
           try clear hfz4_0
           try clear hfz4_1
           try clear hfz4_2
           try clear hfz4_3
           try clear hfz4_4
           try clear hfz4_5
           try clear hfz4_6
           try clear hfz52_0
           try clear hfz52_1
           try clear hfz52_2
           try clear hfz52_3
           try clear hfz52_4
           try clear hfz52_5
           try clear hfz52_6
           try clear hfz57_0
           try clear hfz57_1
           try clear hfz57_2
           try clear hfz57_3
           try clear hfz57_4
           try clear hfz57_5
           try clear hfz57_6
           try clear hfz59_0
           try clear hfz59_1
           try clear hfz59_2
           try clear hfz59_3
           try clear hfz59_4
           try clear hfz59_5
           try clear hfz59_6
           try clear hfz60_0
           try clear hfz60_1
           try clear hfz60_2
           try clear hfz60_3
           try clear hfz60_4
           try clear hfz60_5
           try clear hfz60_6
           try clear hfz61_0
           try clear hfz61_1
           try clear hfz61_2
           try clear hfz61_3
           try clear hfz61_4
           try clear hfz61_5
           try clear hfz61_6
           try clear hfz8_0
           try clear hfz8_1
           try clear hfz8_2
           try clear hfz8_3
           try clear hfz8_4
           try clear hfz8_5
           try clear hfz8_6
           try clear p2
           obtain ⟨kq, x88_53, rfl, HA, HJ53, BK1001, HB⟩ := hcut
           cases kq with
           | zero => exact absurd HA.out (by simp [impl_GoodRelabel.j3])
           | succ kj53 =>
            have H := HA.out
            clear HA
            simp only [impl_GoodRelabel.j3] at H
            by_cases c62 : x88_53 = true
            ·subst c62
             have H1 : (some false) = some r := by rw [if_pos rfl] at H; exact H
             clear H
             have H := H1
             clear H1
             obtain rfl := Option.some.inj H
             go_wp2
             go_ret
             exact ⟨rf_, bg_⟩
            ·replace c62 := Bool.eq_false_iff.mpr c62
             subst c62
             have H1 : ((impl_isOne.f kj53 a0_0 (([5, 6, 7] : List Int))).bind fun t1018 => (if t1018 = true then (if (l0_1.length : Int) > 0 then (some false) else (if a0_2.toList = ([] : List UInt8) then (if a0_3.toList = ([] : List UInt8) then (some true) else ((impl_isOne.f kj53 a0_0 (([4, 8] : List Int))).bind fun t1022 => (some (!t1022)))) else (some false))) else (if a0_3.toList = ([] : List UInt8) then (some true) else ((impl_isOne.f kj53 a0_0 (([4, 8] : List Int))).bind fun t1026 => (some (!t1026)))))) = some r := by rw [if_neg (show ¬ (false = true) by decide)] at H; exact H
             clear H
             have H := H1
             clear H1
             obtain ⟨y1015, hy1015⟩ : ∃ y_ : List Int, y_ = (([5, 6, 7] : List Int)) := ⟨_, rfl⟩
             replace H : ((impl_isOne.f kj53 a0_0 y1015).bind fun t1018 => (if t1018 = true then (if (l0_1.length : Int) > 0 then (some false) else (if a0_2.toList = ([] : List UInt8) then (if a0_3.toList = ([] : List UInt8) then (some true) else ((impl_isOne.f kj53 a0_0 (([4, 8] : List Int))).bind fun t1022 => (some (!t1022)))) else (some false))) else (if a0_3.toList = ([] : List UInt8) then (some true) else ((impl_isOne.f kj53 a0_0 (([4, 8] : List Int))).bind fun t1026 => (some (!t1026)))))) = some r := by first | (rw [hy1015]; with_reducible exact H) | (have H2_ := (Option.bind_some _ _).symm.trans H; rw [hy1015]; with_reducible exact H2_) | (have H2_ := (Option.bind_some _ _).symm.trans H; with_reducible exact H2_) | with_reducible exact H | (rw [hy1015]; exact H) | exact H
             have Ny1015 := am_ hy1015
             clear hy1015
             replace H := Option.bind_eq_some_iff.mp H
             obtain ⟨t1018, A630, H⟩ := H
             replace H : (if t1018 = true then (if (l0_1.length : Int) > 0 then (some false) else (if a0_2.toList = ([] : List UInt8) then (if a0_3.toList = ([] : List UInt8) then (some true) else ((impl_isOne.f kj53 a0_0 (([4, 8] : List Int))).bind fun t1022 => (some (!t1022)))) else (some false))) else (if a0_3.toList = ([] : List UInt8) then (some true) else ((impl_isOne.f kj53 a0_0 (([4, 8] : List Int))).bind fun t1026 => (some (!t1026))))) = some r := H
             have A63 := am_ A630
             clear A630
             by_cases c64 : t1018 = true
             ·subst c64
              have H1 : (if (l0_1.length : Int) > 0 then (some false) else (if a0_2.toList = ([] : List UInt8) then (if a0_3.toList = ([] : List UInt8) then (some true) else ((impl_isOne.f kj53 a0_0 (([4, 8] : List Int))).bind fun t1022 => (some (!t1022)))) else (some false))) = some r := by rw [if_pos rfl] at H; exact H
              clear H
              have H := H1
              clear H1
              by_cases c65 : (l0_1.length : Int) > 0
              ·rw [if_pos c65] at H
               have c65b0 : decide (0 < (l0_1.length : Int)) = true := decide_eq_true c65
               have c65b1 : decide (0 < l0_1.length) = true := decide_eq_true (by omega)
               have c65b2 : 0 < l0_1.length := by omega
               clear c65
               obtain rfl := Option.some.inj H
               go_wp2_with (first | ((with_reducible refine gate_dst (N := 90) rfl ?_); (try (refine gate_guard (by rfl) ?_; dsimp only)); refine Kd.R_lit (Kd.int .i64) _ 3 ?hg (N := 90) ?hd (xs := ([5, 6, 7] : List Int)) (inner := [.int .i64 5, .int .i64 6, .int .i64 7]) (ok := fun _ => True) (okp := fun _ => True) ?hr ?hp (fun _ hk => hk) trivial (Below.refl _ _) (Nat.le_refl _) (by simp) ?_; (case hd => rfl); (case hg => rfl); (case hr => first | (go_simp; done) | (go_simp; rfl)); (case hp => exact (Reps.one (show Kd.M (Kd.int .i64) _ _ _ 5 [.int .i64 5] from rfl) (Reps.one (show Kd.M (Kd.int .i64) _ _ _ 6 [.int .i64 6] from rfl) (Reps.one (show Kd.M (Kd.int .i64) _ _ _ 7 [.int .i64 7] from rfl) (Reps.none _ _))))); intro v1016 w66 ho67 hb hg_ hnew_; clear hg_ hnew_; (first | rw [← Ny1015.out] at ho67 | (simp only [Int.reduceToNat] at ho67; rw [← Ny1015.out] at ho67)); have n0_ := am_ (Kd.R_lower ho67 (below_size bg_)); have n1_ := am_ (blk_below (g := gb1001) (vk_ BK1001) hb); have n2_ := am_ (below_step bg_ hb); clear BK1001; clear HB; have HO1017 := n0_; have BK1001 := n1_; have HB := n2_; clear n0_ n1_ n2_; clear hb ho67; obtain ⟨Ao68, co68, eo68⟩ := Kd.R_slice HO1017.out; subst eo68) | ((with_reducible refine gate_callee (f := 86) rfl ?_); refine goesL_ (some 91) rfl rfl Try.func86 (by kernel_rfl) rfl #[.int .i64 a0_0, .slice Ao68 y1015.length co68] rfl ag_ ?_; (with_reducible refine (impl_isOne.calls kj53 a0_0 _ _ y1015 true _ ?side1 ?side2 A63.out).mono ?_); (case side1 => exact cc_ (Kd.R_reads' HO1017.out).2.2); (case side2 => exact (Kd.R_reads' HO1017.out).2.1); rintro e w' ⟨rfl, ⟨nd, rfl⟩⟩; refine ⟨_, rfl, ?_⟩; have hcz69_0 : w66.cell? ⟨gb1001, 0, none⟩ = some (.int .i64 a0_0) := (blk_cell BK1001.out 0).trans rfl; have hcz69_1 : w66.cell? ⟨gb1001, 1, none⟩ = some (.slice A0_1 l0_1.length c0_1) := (blk_cell BK1001.out 1).trans rfl; have hcz69_2 : w66.cell? ⟨gb1001, 2, none⟩ = some (.string a0_2) := (blk_cell BK1001.out 2).trans rfl; have hcz69_3 : w66.cell? ⟨gb1001, 3, none⟩ = some (.string a0_3) := (blk_cell BK1001.out 3).trans rfl; have hcz69_4 : w66.cell? ⟨gb1001, 4, none⟩ = some (.string a0_4) := (blk_cell BK1001.out 4).trans rfl; have hcz69_5 : w66.cell? ⟨gb1001, 5, none⟩ = some (.string a0_5) := (blk_cell BK1001.out 5).trans rfl; have hcz69_6 : w66.cell? ⟨gb1001, 6, none⟩ = some (.int .i64 a0_6) := (blk_cell BK1001.out 6).trans rfl; have hfz69_0 := bf_ BK1001 0; have hfz69_1 := bf_ BK1001 1; have hfz69_2 := bf_ BK1001 2; have hfz69_3 := bf_ BK1001 3; have hfz69_4 := bf_ BK1001 4; have hfz69_5 := bf_ BK1001 5; have hfz69_6 := bf_ BK1001 6))
               go_ret
               exact ⟨rf_, bg_⟩
              ·rw [if_neg c65] at H
               have c65b0 : decide (0 < (l0_1.length : Int)) = false := decide_eq_false c65
               have c65b1 : decide (0 < l0_1.length) = false := decide_eq_false (by omega)
               have c65b2 : ¬ 0 < l0_1.length := by omega
               clear c65
               by_cases c70 : a0_2.toList = ([] : List UInt8)
               ·rw [if_pos c70] at H
                have c70b0 : (a0_2.toList == ([] : List UInt8)) = true := beq_iff_eq.mpr c70
                have c70b1 : (a0_2.toList != ([] : List UInt8)) = false := bne_eq_false_iff_eq.mpr c70
                clear c70
                by_cases c71 : a0_3.toList = ([] : List UInt8)
                ·rw [if_pos c71] at H
                 have c71b0 : (a0_3.toList == ([] : List UInt8)) = true := beq_iff_eq.mpr c71
                 have c71b1 : (a0_3.toList != ([] : List UInt8)) = false := bne_eq_false_iff_eq.mpr c71
                 clear c71
                 obtain rfl := Option.some.inj H
                 go_wp2_with (first | ((with_reducible refine gate_dst (N := 90) rfl ?_); (try (refine gate_guard (by rfl) ?_; dsimp only)); refine Kd.R_lit (Kd.int .i64) _ 3 ?hg (N := 90) ?hd (xs := ([5, 6, 7] : List Int)) (inner := [.int .i64 5, .int .i64 6, .int .i64 7]) (ok := fun _ => True) (okp := fun _ => True) ?hr ?hp (fun _ hk => hk) trivial (Below.refl _ _) (Nat.le_refl _) (by simp) ?_; (case hd => rfl); (case hg => rfl); (case hr => first | (go_simp; done) | (go_simp; rfl)); (case hp => exact (Reps.one (show Kd.M (Kd.int .i64) _ _ _ 5 [.int .i64 5] from rfl) (Reps.one (show Kd.M (Kd.int .i64) _ _ _ 6 [.int .i64 6] from rfl) (Reps.one (show Kd.M (Kd.int .i64) _ _ _ 7 [.int .i64 7] from rfl) (Reps.none _ _))))); intro v1016 w72 ho73 hb hg_ hnew_; clear hg_ hnew_; (first | rw [← Ny1015.out] at ho73 | (simp only [Int.reduceToNat] at ho73; rw [← Ny1015.out] at ho73)); have n0_ := am_ (Kd.R_lower ho73 (below_size bg_)); have n1_ := am_ (blk_below (g := gb1001) (vk_ BK1001) hb); have n2_ := am_ (below_step bg_ hb); clear BK1001; clear HB; have HO1017 := n0_; have BK1001 := n1_; have HB := n2_; clear n0_ n1_ n2_; clear hb ho73; obtain ⟨Ao74, co74, eo74⟩ := Kd.R_slice HO1017.out; subst eo74) | ((with_reducible refine gate_callee (f := 86) rfl ?_); refine goesL_ (some 91) rfl rfl Try.func86 (by kernel_rfl) rfl #[.int .i64 a0_0, .slice Ao74 y1015.length co74] rfl ag_ ?_; (with_reducible refine (impl_isOne.calls kj53 a0_0 _ _ y1015 true _ ?side1 ?side2 A63.out).mono ?_); (case side1 => exact cc_ (Kd.R_reads' HO1017.out).2.2); (case side2 => exact (Kd.R_reads' HO1017.out).2.1); rintro e w' ⟨rfl, ⟨nd, rfl⟩⟩; refine ⟨_, rfl, ?_⟩; have hcz75_0 : w72.cell? ⟨gb1001, 0, none⟩ = some (.int .i64 a0_0) := (blk_cell BK1001.out 0).trans rfl; have hcz75_1 : w72.cell? ⟨gb1001, 1, none⟩ = some (.slice A0_1 l0_1.length c0_1) := (blk_cell BK1001.out 1).trans rfl; have hcz75_2 : w72.cell? ⟨gb1001, 2, none⟩ = some (.string a0_2) := (blk_cell BK1001.out 2).trans rfl; have hcz75_3 : w72.cell? ⟨gb1001, 3, none⟩ = some (.string a0_3) := (blk_cell BK1001.out 3).trans rfl; have hcz75_4 : w72.cell? ⟨gb1001, 4, none⟩ = some (.string a0_4) := (blk_cell BK1001.out 4).trans rfl; have hcz75_5 : w72.cell? ⟨gb1001, 5, none⟩ = some (.string a0_5) := (blk_cell BK1001.out 5).trans rfl; have hcz75_6 : w72.cell? ⟨gb1001, 6, none⟩ = some (.int .i64 a0_6) := (blk_cell BK1001.out 6).trans rfl; have hfz75_0 := bf_ BK1001 0; have hfz75_1 := bf_ BK1001 1; have hfz75_2 := bf_ BK1001 2; have hfz75_3 := bf_ BK1001 3; have hfz75_4 := bf_ BK1001 4; have hfz75_5 := bf_ BK1001 5; have hfz75_6 := bf_ BK1001 6))
                 go_ret
                 exact ⟨rf_, bg_⟩
                ·rw [if_neg c71] at H
                 have c71b0 : (a0_3.toList == ([] : List UInt8)) = false := beq_eq_false_iff_ne.mpr c71
                 have c71b1 : (a0_3.toList != ([] : List UInt8)) = true := bne_iff_ne.mpr c71
                 obtain ⟨y1019, hy1019⟩ : ∃ y_ : List Int, y_ = (([4, 8] : List Int)) := ⟨_, rfl⟩
                 replace H : ((impl_isOne.f kj53 a0_0 y1019).bind fun t1022 => (some (!t1022))) = some r := by first | (rw [hy1019]; with_reducible exact H) | (have H2_ := (Option.bind_some _ _).symm.trans H; rw [hy1019]; with_reducible exact H2_) | (have H2_ := (Option.bind_some _ _).symm.trans H; with_reducible exact H2_) | with_reducible exact H | (rw [hy1019]; exact H) | exact H
                 have Ny1019 := am_ hy1019
                 clear hy1019
                 replace H := Option.bind_eq_some_iff.mp H
                 obtain ⟨t1022, A760, H⟩ := H
                 replace H : (some (!t1022)) = some r := H
                 have A76 := am_ A760
                 clear A760
                 obtain rfl := Option.some.inj H
                 go_wp2_with (first | ((with_reducible refine gate_dst (N := 90) rfl ?_); (try (refine gate_guard (by rfl) ?_; dsimp only)); refine Kd.R_lit (Kd.int .i64) _ 3 ?hg (N := 90) ?hd (xs := ([5, 6, 7] : List Int)) (inner := [.int .i64 5, .int .i64 6, .int .i64 7]) (ok := fun _ => True) (okp := fun _ => True) ?hr ?hp (fun _ hk => hk) trivial (Below.refl _ _) (Nat.le_refl _) (by simp) ?_; (case hd => rfl); (case hg => rfl); (case hr => first | (go_simp; done) | (go_simp; rfl)); (case hp => exact (Reps.one (show Kd.M (Kd.int .i64) _ _ _ 5 [.int .i64 5] from rfl) (Reps.one (show Kd.M (Kd.int .i64) _ _ _ 6 [.int .i64 6] from rfl) (Reps.one (show Kd.M (Kd.int .i64) _ _ _ 7 [.int .i64 7] from rfl) (Reps.none _ _))))); intro v1016 w77 ho78 hb hg_ hnew_; clear hg_ hnew_; (first | rw [← Ny1015.out] at ho78 | (simp only [Int.reduceToNat] at ho78; rw [← Ny1015.out] at ho78)); have n0_ := am_ (Kd.R_lower ho78 (below_size bg_)); have n1_ := am_ (blk_below (g := gb1001) (vk_ BK1001) hb); have n2_ := am_ (below_step bg_ hb); clear BK1001; clear HB; have HO1017 := n0_; have BK1001 := n1_; have HB := n2_; clear n0_ n1_ n2_; clear hb ho78; obtain ⟨Ao79, co79, eo79⟩ := Kd.R_slice HO1017.out; subst eo79) | ((with_reducible refine gate_callee (f := 86) rfl ?_); refine goesL_ (some 91) rfl rfl Try.func86 (by kernel_rfl) rfl #[.int .i64 a0_0, .slice Ao79 y1015.length co79] rfl ag_ ?_; (with_reducible refine (impl_isOne.calls kj53 a0_0 _ _ y1015 true _ ?side1 ?side2 A63.out).mono ?_); (case side1 => exact cc_ (Kd.R_reads' HO1017.out).2.2); (case side2 => exact (Kd.R_reads' HO1017.out).2.1); rintro e w' ⟨rfl, ⟨nd, rfl⟩⟩; refine ⟨_, rfl, ?_⟩; have hcz80_0 : w77.cell? ⟨gb1001, 0, none⟩ = some (.int .i64 a0_0) := (blk_cell BK1001.out 0).trans rfl; have hcz80_1 : w77.cell? ⟨gb1001, 1, none⟩ = some (.slice A0_1 l0_1.length c0_1) := (blk_cell BK1001.out 1).trans rfl; have hcz80_2 : w77.cell? ⟨gb1001, 2, none⟩ = some (.string a0_2) := (blk_cell BK1001.out 2).trans rfl; have hcz80_3 : w77.cell? ⟨gb1001, 3, none⟩ = some (.string a0_3) := (blk_cell BK1001.out 3).trans rfl; have hcz80_4 : w77.cell? ⟨gb1001, 4, none⟩ = some (.string a0_4) := (blk_cell BK1001.out 4).trans rfl; have hcz80_5 : w77.cell? ⟨gb1001, 5, none⟩ = some (.string a0_5) := (blk_cell BK1001.out 5).trans rfl; have hcz80_6 : w77.cell? ⟨gb1001, 6, none⟩ = some (.int .i64 a0_6) := (blk_cell BK1001.out 6).trans rfl; have hfz80_0 := bf_ BK1001 0; have hfz80_1 := bf_ BK1001 1; have hfz80_2 := bf_ BK1001 2; have hfz80_3 := bf_ BK1001 3; have hfz80_4 := bf_ BK1001 4; have hfz80_5 := bf_ BK1001 5; have hfz80_6 := bf_ BK1001 6) | ((with_reducible refine gate_dst (N := 108) rfl ?_); (try (refine gate_guard (by rfl) ?_; dsimp only)); refine Kd.R_lit (Kd.int .i64) _ 3 ?hg (N := 108) ?hd (xs := ([4, 8] : List Int)) (inner := [.int .i64 4, .int .i64 8]) (ok := fun _ => True) (okp := fun _ => True) ?hr ?hp (fun _ hk => hk) trivial (Below.refl _ _) (Nat.le_refl _) (by simp) ?_; (case hd => rfl); (case hg => rfl); (case hr => first | (go_simp; done) | (go_simp; rfl)); (case hp => exact (Reps.one (show Kd.M (Kd.int .i64) _ _ _ 4 [.int .i64 4] from rfl) (Reps.one (show Kd.M (Kd.int .i64) _ _ _ 8 [.int .i64 8] from rfl) (Reps.none _ _)))); intro v1020 w81 ho82 hb hg_ hnew_; clear hg_ hnew_; (first | rw [← Ny1019.out] at ho82 | (simp only [Int.reduceToNat] at ho82; rw [← Ny1019.out] at ho82)); have n0_ := am_ (Kd.R_elder' (ro_ HO1017) (Kd.R_base ho82) hb); have n1_ := am_ (Kd.R_lower (Kd.R_new' ho82 (Kd.R_lt (ro_ HO1017))) (below_size bg_)); have n2_ := am_ (blk_below (g := gb1001) (vk_ BK1001) hb); have n3_ := am_ (below_step bg_ hb); clear HO1017; clear BK1001; clear HB; have HO1017 := n0_; have HO1021 := n1_; have BK1001 := n2_; have HB := n3_; clear n0_ n1_ n2_ n3_; clear hb ho82; obtain ⟨Ao83, co83, eo83⟩ := Kd.R_slice HO1021.out; subst eo83) | (go_at_call 86; (with_reducible refine (impl_isOne.calls kj53 a0_0 _ _ y1019 t1022 _ ?side1 ?side2 A76.out).mono ?_); (case side1 => exact cc_ (Kd.R_reads' HO1021.out).2.2); (case side2 => exact (Kd.R_reads' HO1021.out).2.1); rintro e w' ⟨rfl, ⟨nd, rfl⟩⟩))
                 go_ret
                 exact ⟨rf_, bg_⟩
               ·rw [if_neg c70] at H
                have c70b0 : (a0_2.toList == ([] : List UInt8)) = false := beq_eq_false_iff_ne.mpr c70
                have c70b1 : (a0_2.toList != ([] : List UInt8)) = true := bne_iff_ne.mpr c70
                obtain rfl := Option.some.inj H
                go_wp2_with (first | ((with_reducible refine gate_dst (N := 90) rfl ?_); (try (refine gate_guard (by rfl) ?_; dsimp only)); refine Kd.R_lit (Kd.int .i64) _ 3 ?hg (N := 90) ?hd (xs := ([5, 6, 7] : List Int)) (inner := [.int .i64 5, .int .i64 6, .int .i64 7]) (ok := fun _ => True) (okp := fun _ => True) ?hr ?hp (fun _ hk => hk) trivial (Below.refl _ _) (Nat.le_refl _) (by simp) ?_; (case hd => rfl); (case hg => rfl); (case hr => first | (go_simp; done) | (go_simp; rfl)); (case hp => exact (Reps.one (show Kd.M (Kd.int .i64) _ _ _ 5 [.int .i64 5] from rfl) (Reps.one (show Kd.M (Kd.int .i64) _ _ _ 6 [.int .i64 6] from rfl) (Reps.one (show Kd.M (Kd.int .i64) _ _ _ 7 [.int .i64 7] from rfl) (Reps.none _ _))))); intro v1016 w84 ho85 hb hg_ hnew_; clear hg_ hnew_; (first | rw [← Ny1015.out] at ho85 | (simp only [Int.reduceToNat] at ho85; rw [← Ny1015.out] at ho85)); have n0_ := am_ (Kd.R_lower ho85 (below_size bg_)); have n1_ := am_ (blk_below (g := gb1001) (vk_ BK1001) hb); have n2_ := am_ (below_step bg_ hb); clear BK1001; clear HB; have HO1017 := n0_; have BK1001 := n1_; have HB := n2_; clear n0_ n1_ n2_; clear hb ho85; obtain ⟨Ao86, co86, eo86⟩ := Kd.R_slice HO1017.out; subst eo86) | ((with_reducible refine gate_callee (f := 86) rfl ?_); refine goesL_ (some 91) rfl rfl Try.func86 (by kernel_rfl) rfl #[.int .i64 a0_0, .slice Ao86 y1015.length co86] rfl ag_ ?_; (with_reducible refine (impl_isOne.calls kj53 a0_0 _ _ y1015 true _ ?side1 ?side2 A63.out).mono ?_); (case side1 => exact cc_ (Kd.R_reads' HO1017.out).2.2); (case side2 => exact (Kd.R_reads' HO1017.out).2.1); rintro e w' ⟨rfl, ⟨nd, rfl⟩⟩; refine ⟨_, rfl, ?_⟩; have hcz87_0 : w84.cell? ⟨gb1001, 0, none⟩ = some (.int .i64 a0_0) := (blk_cell BK1001.out 0).trans rfl; have hcz87_1 : w84.cell? ⟨gb1001, 1, none⟩ = some (.slice A0_1 l0_1.length c0_1) := (blk_cell BK1001.out 1).trans rfl; have hcz87_2 : w84.cell? ⟨gb1001, 2, none⟩ = some (.string a0_2) := (blk_cell BK1001.out 2).trans rfl; have hcz87_3 : w84.cell? ⟨gb1001, 3, none⟩ = some (.string a0_3) := (blk_cell BK1001.out 3).trans rfl; have hcz87_4 : w84.cell? ⟨gb1001, 4, none⟩ = some (.string a0_4) := (blk_cell BK1001.out 4).trans rfl; have hcz87_5 : w84.cell? ⟨gb1001, 5, none⟩ = some (.string a0_5) := (blk_cell BK1001.out 5).trans rfl; have hcz87_6 : w84.cell? ⟨gb1001, 6, none⟩ = some (.int .i64 a0_6) := (blk_cell BK1001.out 6).trans rfl; have hfz87_0 := bf_ BK1001 0; have hfz87_1 := bf_ BK1001 1; have hfz87_2 := bf_ BK1001 2; have hfz87_3 := bf_ BK1001 3; have hfz87_4 := bf_ BK1001 4; have hfz87_5 := bf_ BK1001 5; have hfz87_6 := bf_ BK1001 6))
                go_ret
                exact ⟨rf_, bg_⟩
             ·replace c64 := Bool.eq_false_iff.mpr c64
              subst c64
              have H1 : (if a0_3.toList = ([] : List UInt8) then (some true) else ((impl_isOne.f kj53 a0_0 (([4, 8] : List Int))).bind fun t1026 => (some (!t1026)))) = some r := by rw [if_neg (show ¬ (false = true) by decide)] at H; exact H
              clear H
              have H := H1
              clear H1
              by_cases c88 : a0_3.toList = ([] : List UInt8)
              ·rw [if_pos c88] at H
               have c88b0 : (a0_3.toList == ([] : List UInt8)) = true := beq_iff_eq.mpr c88
               have c88b1 : (a0_3.toList != ([] : List UInt8)) = false := bne_eq_false_iff_eq.mpr c88
               clear c88
               obtain rfl := Option.some.inj H
               go_wp2_with (first | ((with_reducible refine gate_dst (N := 90) rfl ?_); (try (refine gate_guard (by rfl) ?_; dsimp only)); refine Kd.R_lit (Kd.int .i64) _ 3 ?hg (N := 90) ?hd (xs := ([5, 6, 7] : List Int)) (inner := [.int .i64 5, .int .i64 6, .int .i64 7]) (ok := fun _ => True) (okp := fun _ => True) ?hr ?hp (fun _ hk => hk) trivial (Below.refl _ _) (Nat.le_refl _) (by simp) ?_; (case hd => rfl); (case hg => rfl); (case hr => first | (go_simp; done) | (go_simp; rfl)); (case hp => exact (Reps.one (show Kd.M (Kd.int .i64) _ _ _ 5 [.int .i64 5] from rfl) (Reps.one (show Kd.M (Kd.int .i64) _ _ _ 6 [.int .i64 6] from rfl) (Reps.one (show Kd.M (Kd.int .i64) _ _ _ 7 [.int .i64 7] from rfl) (Reps.none _ _))))); intro v1016 w89 ho90 hb hg_ hnew_; clear hg_ hnew_; (first | rw [← Ny1015.out] at ho90 | (simp only [Int.reduceToNat] at ho90; rw [← Ny1015.out] at ho90)); have n0_ := am_ (Kd.R_lower ho90 (below_size bg_)); have n1_ := am_ (blk_below (g := gb1001) (vk_ BK1001) hb); have n2_ := am_ (below_step bg_ hb); clear BK1001; clear HB; have HO1017 := n0_; have BK1001 := n1_; have HB := n2_; clear n0_ n1_ n2_; clear hb ho90; obtain ⟨Ao91, co91, eo91⟩ := Kd.R_slice HO1017.out; subst eo91) | ((with_reducible refine gate_callee (f := 86) rfl ?_); refine goesL_ (some 91) rfl rfl Try.func86 (by kernel_rfl) rfl #[.int .i64 a0_0, .slice Ao91 y1015.length co91] rfl ag_ ?_; (with_reducible refine (impl_isOne.calls kj53 a0_0 _ _ y1015 false _ ?side1 ?side2 A63.out).mono ?_); (case side1 => exact cc_ (Kd.R_reads' HO1017.out).2.2); (case side2 => exact (Kd.R_reads' HO1017.out).2.1); rintro e w' ⟨rfl, ⟨nd, rfl⟩⟩; refine ⟨_, rfl, ?_⟩; have hcz92_0 : w89.cell? ⟨gb1001, 0, none⟩ = some (.int .i64 a0_0) := (blk_cell BK1001.out 0).trans rfl; have hcz92_1 : w89.cell? ⟨gb1001, 1, none⟩ = some (.slice A0_1 l0_1.length c0_1) := (blk_cell BK1001.out 1).trans rfl; have hcz92_2 : w89.cell? ⟨gb1001, 2, none⟩ = some (.string a0_2) := (blk_cell BK1001.out 2).trans rfl; have hcz92_3 : w89.cell? ⟨gb1001, 3, none⟩ = some (.string a0_3) := (blk_cell BK1001.out 3).trans rfl; have hcz92_4 : w89.cell? ⟨gb1001, 4, none⟩ = some (.string a0_4) := (blk_cell BK1001.out 4).trans rfl; have hcz92_5 : w89.cell? ⟨gb1001, 5, none⟩ = some (.string a0_5) := (blk_cell BK1001.out 5).trans rfl; have hcz92_6 : w89.cell? ⟨gb1001, 6, none⟩ = some (.int .i64 a0_6) := (blk_cell BK1001.out 6).trans rfl; have hfz92_0 := bf_ BK1001 0; have hfz92_1 := bf_ BK1001 1; have hfz92_2 := bf_ BK1001 2; have hfz92_3 := bf_ BK1001 3; have hfz92_4 := bf_ BK1001 4; have hfz92_5 := bf_ BK1001 5; have hfz92_6 := bf_ BK1001 6))
               go_ret
               exact ⟨rf_, bg_⟩
              ·rw [if_neg c88] at H
               have c88b0 : (a0_3.toList == ([] : List UInt8)) = false := beq_eq_false_iff_ne.mpr c88
               have c88b1 : (a0_3.toList != ([] : List UInt8)) = true := bne_iff_ne.mpr c88
               obtain ⟨y1023, hy1023⟩ : ∃ y_ : List Int, y_ = (([4, 8] : List Int)) := ⟨_, rfl⟩
               replace H : ((impl_isOne.f kj53 a0_0 y1023).bind fun t1026 => (some (!t1026))) = some r := by first | (rw [hy1023]; with_reducible exact H) | (have H2_ := (Option.bind_some _ _).symm.trans H; rw [hy1023]; with_reducible exact H2_) | (have H2_ := (Option.bind_some _ _).symm.trans H; with_reducible exact H2_) | with_reducible exact H | (rw [hy1023]; exact H) | exact H
               have Ny1023 := am_ hy1023
               clear hy1023
               replace H := Option.bind_eq_some_iff.mp H
               obtain ⟨t1026, A930, H⟩ := H
               replace H : (some (!t1026)) = some r := H
               have A93 := am_ A930
               clear A930
               obtain rfl := Option.some.inj H
               go_wp2_with (first | ((with_reducible refine gate_dst (N := 90) rfl ?_); (try (refine gate_guard (by rfl) ?_; dsimp only)); refine Kd.R_lit (Kd.int .i64) _ 3 ?hg (N := 90) ?hd (xs := ([5, 6, 7] : List Int)) (inner := [.int .i64 5, .int .i64 6, .int .i64 7]) (ok := fun _ => True) (okp := fun _ => True) ?hr ?hp (fun _ hk => hk) trivial (Below.refl _ _) (Nat.le_refl _) (by simp) ?_; (case hd => rfl); (case hg => rfl); (case hr => first | (go_simp; done) | (go_simp; rfl)); (case hp => exact (Reps.one (show Kd.M (Kd.int .i64) _ _ _ 5 [.int .i64 5] from rfl) (Reps.one (show Kd.M (Kd.int .i64) _ _ _ 6 [.int .i64 6] from rfl) (Reps.one (show Kd.M (Kd.int .i64) _ _ _ 7 [.int .i64 7] from rfl) (Reps.none _ _))))); intro v1016 w94 ho95 hb hg_ hnew_; clear hg_ hnew_; (first | rw [← Ny1015.out] at ho95 | (simp only [Int.reduceToNat] at ho95; rw [← Ny1015.out] at ho95)); have n0_ := am_ (Kd.R_lower ho95 (below_size bg_)); have n1_ := am_ (blk_below (g := gb1001) (vk_ BK1001) hb); have n2_ := am_ (below_step bg_ hb); clear BK1001; clear HB; have HO1017 := n0_; have BK1001 := n1_; have HB := n2_; clear n0_ n1_ n2_; clear hb ho95; obtain ⟨Ao96, co96, eo96⟩ := Kd.R_slice HO1017.out; subst eo96) | ((with_reducible refine gate_callee (f := 86) rfl ?_); refine goesL_ (some 91) rfl rfl Try.func86 (by kernel_rfl) rfl #[.int .i64 a0_0, .slice Ao96 y1015.length co96] rfl ag_ ?_; (with_reducible refine (impl_isOne.calls kj53 a0_0 _ _ y1015 false _ ?side1 ?side2 A63.out).mono ?_); (case side1 => exact cc_ (Kd.R_reads' HO1017.out).2.2); (case side2 => exact (Kd.R_reads' HO1017.out).2.1); rintro e w' ⟨rfl, ⟨nd, rfl⟩⟩; refine ⟨_, rfl, ?_⟩; have hcz97_0 : w94.cell? ⟨gb1001, 0, none⟩ = some (.int .i64 a0_0) := (blk_cell BK1001.out 0).trans rfl; have hcz97_1 : w94.cell? ⟨gb1001, 1, none⟩ = some (.slice A0_1 l0_1.length c0_1) := (blk_cell BK1001.out 1).trans rfl; have hcz97_2 : w94.cell? ⟨gb1001, 2, none⟩ = some (.string a0_2) := (blk_cell BK1001.out 2).trans rfl; have hcz97_3 : w94.cell? ⟨gb1001, 3, none⟩ = some (.string a0_3) := (blk_cell BK1001.out 3).trans rfl; have hcz97_4 : w94.cell? ⟨gb1001, 4, none⟩ = some (.string a0_4) := (blk_cell BK1001.out 4).trans rfl; have hcz97_5 : w94.cell? ⟨gb1001, 5, none⟩ = some (.string a0_5) := (blk_cell BK1001.out 5).trans rfl; have hcz97_6 : w94.cell? ⟨gb1001, 6, none⟩ = some (.int .i64 a0_6) := (blk_cell BK1001.out 6).trans rfl; have hfz97_0 := bf_ BK1001 0; have hfz97_1 := bf_ BK1001 1; have hfz97_2 := bf_ BK1001 2; have hfz97_3 := bf_ BK1001 3; have hfz97_4 := bf_ BK1001 4; have hfz97_5 := bf_ BK1001 5; have hfz97_6 := bf_ BK1001 6) | ((with_reducible refine gate_dst (N := 108) rfl ?_); (try (refine gate_guard (by rfl) ?_; dsimp only)); refine Kd.R_lit (Kd.int .i64) _ 3 ?hg (N := 108) ?hd (xs := ([4, 8] : List Int)) (inner := [.int .i64 4, .int .i64 8]) (ok := fun _ => True) (okp := fun _ => True) ?hr ?hp (fun _ hk => hk) trivial (Below.refl _ _) (Nat.le_refl _) (by simp) ?_; (case hd => rfl); (case hg => rfl); (case hr => first | (go_simp; done) | (go_simp; rfl)); (case hp => exact (Reps.one (show Kd.M (Kd.int .i64) _ _ _ 4 [.int .i64 4] from rfl) (Reps.one (show Kd.M (Kd.int .i64) _ _ _ 8 [.int .i64 8] from rfl) (Reps.none _ _)))); intro v1024 w98 ho99 hb hg_ hnew_; clear hg_ hnew_; (first | rw [← Ny1023.out] at ho99 | (simp only [Int.reduceToNat] at ho99; rw [← Ny1023.out] at ho99)); have n0_ := am_ (Kd.R_elder' (ro_ HO1017) (Kd.R_base ho99) hb); have n1_ := am_ (Kd.R_lower (Kd.R_new' ho99 (Kd.R_lt (ro_ HO1017))) (below_size bg_)); have n2_ := am_ (blk_below (g := gb1001) (vk_ BK1001) hb); have n3_ := am_ (below_step bg_ hb); clear HO1017; clear BK1001; clear HB; have HO1017 := n0_; have HO1025 := n1_; have BK1001 := n2_; have HB := n3_; clear n0_ n1_ n2_ n3_; clear hb ho99; obtain ⟨Ao100, co100, eo100⟩ := Kd.R_slice HO1025.out; subst eo100) | (go_at_call 86; (with_reducible refine (impl_isOne.calls kj53 a0_0 _ _ y1023 t1026 _ ?side1 ?side2 A93.out).mono ?_); (case side1 => exact cc_ (Kd.R_reads' HO1025.out).2.2); (case side2 => exact (Kd.R_reads' HO1025.out).2.1); rintro e w' ⟨rfl, ⟨nd, rfl⟩⟩))
               go_ret
               exact ⟨rf_, bg_⟩

end Go.Proofs.Ytnnlgbpfdnaalaa.Pr
