/- Functions of the given program as plain Lean functions, and that the machine's calls come to them; written by a program of this session; no condition but those that each theorem states. -/
import Derived.Test.YtknlgignjbghkaaDoorPrx0
import Derived.Test.YtknlgignjbghkaaDoorPrxg2cfb1n1
import Derived.Test.YtknlgignjbghkaaDoorPrxged182n4
namespace Go.Proofs.YtknlgignjbghkaaDoor.Pr
open Go.RowKit Go.Proofs.YtknlgignjbghkaaDoorW.PrintWords Go.Proofs.YtknlgignjbghkaaDoorW.PrintLast Go.Proofs.YtknlgignjbghkaaDoorW.PrintMore
attribute [local go_sem] max2_int min2_int max_two min_two max_three min_three max_four min_four   -- for this text's walks alone
set_option linter.unusedVariables false
set_option linter.unusedSimpArgs false

/-! ### impl_RelabelText: function 18 -/
mutual
def impl_RelabelText.j0 : Nat → ByteArray → Int → List ByteArray → ByteArray → ByteArray → ByteArray → ByteArray → Int → Option (ByteArray)
 | 0, _, _, _, _, _, _, _, _ => none
 | k + 1, x3, x1002000, x1002001, x1002002, x1002003, x1002004, x1002005, x1002006 => if x1002002.toList = ([] : List UInt8) then (impl_RelabelText.j1 k x3 x1002000 x1002001 x1002002 x1002003 x1002004 x1002005 x1002006) else ((impl_quote.f k x1002002).bind fun t1005 => (if 5 + t1005.size ≤ 9223372036854775807 then (if x3.size + ((⟨#[32, 115, 101, 112, 32]⟩ : ByteArray) ++ t1005).size ≤ 9223372036854775807 then (impl_RelabelText.j1 k (x3 ++ ((⟨#[32, 115, 101, 112, 32]⟩ : ByteArray) ++ t1005)) x1002000 x1002001 x1002002 x1002003 x1002004 x1002005 x1002006) else (none)) else (none)))
def impl_RelabelText.j1 : Nat → ByteArray → Int → List ByteArray → ByteArray → ByteArray → ByteArray → ByteArray → Int → Option (ByteArray)
 | 0, _, _, _, _, _, _, _, _ => none
 | k + 1, x3, x1002000, x1002001, x1002002, x1002003, x1002004, x1002005, x1002006 => if x1002003.toList = ([] : List UInt8) then (impl_RelabelText.j2 k x3 x1002000 x1002001 x1002002 x1002003 x1002004 x1002005 x1002006) else ((impl_quote.f k x1002003).bind fun t1006 => (if 6 + t1006.size ≤ 9223372036854775807 then (if x3.size + ((⟨#[32, 108, 105, 107, 101, 32]⟩ : ByteArray) ++ t1006).size ≤ 9223372036854775807 then (impl_RelabelText.j2 k (x3 ++ ((⟨#[32, 108, 105, 107, 101, 32]⟩ : ByteArray) ++ t1006)) x1002000 x1002001 x1002002 x1002003 x1002004 x1002005 x1002006) else (none)) else (none)))
def impl_RelabelText.j2 : Nat → ByteArray → Int → List ByteArray → ByteArray → ByteArray → ByteArray → ByteArray → Int → Option (ByteArray)
 | 0, _, _, _, _, _, _, _, _ => none
 | k + 1, x3, x1002000, x1002001, x1002002, x1002003, x1002004, x1002005, x1002006 => if x1002004.toList = ([] : List UInt8) then (impl_RelabelText.j3 k x3 x1002000 x1002001 x1002002 x1002003 x1002004 x1002005 x1002006) else (if 4 + x1002004.size ≤ 9223372036854775807 then (if x3.size + ((⟨#[32, 116, 111, 32]⟩ : ByteArray) ++ x1002004).size ≤ 9223372036854775807 then (impl_RelabelText.j3 k (x3 ++ ((⟨#[32, 116, 111, 32]⟩ : ByteArray) ++ x1002004)) x1002000 x1002001 x1002002 x1002003 x1002004 x1002005 x1002006) else (none)) else (none))
def impl_RelabelText.j3 : Nat → ByteArray → Int → List ByteArray → ByteArray → ByteArray → ByteArray → ByteArray → Int → Option (ByteArray)
 | 0, _, _, _, _, _, _, _, _ => none
 | k + 1, x3, x1002000, x1002001, x1002002, x1002003, x1002004, x1002005, x1002006 => if x1002005.toList = ([] : List UInt8) then (if x1002006 = 0 then (some x3) else ((impl_digitsOf.f x1002006).bind fun t1007 => (if 4 + t1007.size ≤ 9223372036854775807 then (if x3.size + ((⟨#[32, 98, 121, 32]⟩ : ByteArray) ++ t1007).size ≤ 9223372036854775807 then (some (x3 ++ ((⟨#[32, 98, 121, 32]⟩ : ByteArray) ++ t1007))) else (none)) else (none)))) else ((impl_quote.f k x1002005).bind fun t1008 => (if 4 + t1008.size ≤ 9223372036854775807 then (if x3.size + ((⟨#[32, 97, 115, 32]⟩ : ByteArray) ++ t1008).size ≤ 9223372036854775807 then (if x1002006 = 0 then (some (x3 ++ ((⟨#[32, 97, 115, 32]⟩ : ByteArray) ++ t1008))) else ((impl_digitsOf.f x1002006).bind fun t1009 => (if 4 + t1009.size ≤ 9223372036854775807 then (if (x3 ++ ((⟨#[32, 97, 115, 32]⟩ : ByteArray) ++ t1008)).size + ((⟨#[32, 98, 121, 32]⟩ : ByteArray) ++ t1009).size ≤ 9223372036854775807 then (some ((x3 ++ ((⟨#[32, 97, 115, 32]⟩ : ByteArray) ++ t1008)) ++ ((⟨#[32, 98, 121, 32]⟩ : ByteArray) ++ t1009))) else (none)) else (none)))) else (none)) else (none)))
end
def impl_RelabelText.f (k : Nat) (a0_0 : Int) (l0_1 : List ByteArray) (a0_2 : ByteArray) (a0_3 : ByteArray) (a0_4 : ByteArray) (a0_5 : ByteArray) (a0_6 : Int) : Option (ByteArray) := (impl_GoodRelabel.f k a0_0 l0_1 a0_2 a0_3 a0_4 a0_5 a0_6).bind fun t1002 => (if t1002 = true then (if 0 ≤ a0_0 then (if a0_0 < 9 then (if (l0_1.length : Int) > 0 then ((strings_Join.f l0_1 (⟨#[44]⟩ : ByteArray)).bind fun t1004 => (if 6 + t1004.size ≤ 9223372036854775807 then (if (rdOf ByteArray.empty lT0 a0_0).size + ((⟨#[32, 102, 114, 111, 109, 32]⟩ : ByteArray) ++ t1004).size ≤ 9223372036854775807 then (impl_RelabelText.j0 k ((rdOf ByteArray.empty lT0 a0_0) ++ ((⟨#[32, 102, 114, 111, 109, 32]⟩ : ByteArray) ++ t1004)) a0_0 l0_1 a0_2 a0_3 a0_4 a0_5 a0_6) else (none)) else (none))) else (impl_RelabelText.j0 k (rdOf ByteArray.empty lT0 a0_0) a0_0 l0_1 a0_2 a0_3 a0_4 a0_5 a0_6)) else (none)) else (none)) else (some (⟨#[]⟩ : ByteArray)))
theorem impl_RelabelText.mono_l : ∀ k, (∀ y0 y1 y2 y3 y4 y5 y6 y7, LeO (impl_RelabelText.j0 k y0 y1 y2 y3 y4 y5 y6 y7) (impl_RelabelText.j0 (k + 1) y0 y1 y2 y3 y4 y5 y6 y7)) ∧ (∀ y0 y1 y2 y3 y4 y5 y6 y7, LeO (impl_RelabelText.j1 k y0 y1 y2 y3 y4 y5 y6 y7) (impl_RelabelText.j1 (k + 1) y0 y1 y2 y3 y4 y5 y6 y7)) ∧ (∀ y0 y1 y2 y3 y4 y5 y6 y7, LeO (impl_RelabelText.j2 k y0 y1 y2 y3 y4 y5 y6 y7) (impl_RelabelText.j2 (k + 1) y0 y1 y2 y3 y4 y5 y6 y7)) ∧ (∀ y0 y1 y2 y3 y4 y5 y6 y7, LeO (impl_RelabelText.j3 k y0 y1 y2 y3 y4 y5 y6 y7) (impl_RelabelText.j3 (k + 1) y0 y1 y2 y3 y4 y5 y6 y7))
 | 0 => ⟨fun _ _ _ _ _ _ _ _ r h => by simp [impl_RelabelText.j0] at h, fun _ _ _ _ _ _ _ _ r h => by simp [impl_RelabelText.j1] at h, fun _ _ _ _ _ _ _ _ r h => by simp [impl_RelabelText.j2] at h, fun _ _ _ _ _ _ _ _ r h => by simp [impl_RelabelText.j3] at h⟩
 | k + 1 => by
  obtain ⟨ih0, ih1, ih2, ih3⟩ := impl_RelabelText.mono_l k
  refine ⟨?_, ?_, ?_, ?_⟩
  ·intro y0 y1 y2 y3 y4 y5 y6 y7
   unfold impl_RelabelText.j0
   repeat' first
   | with_reducible first | exact ih0 _ _ _ _ _ _ _ _ | exact ih1 _ _ _ _ _ _ _ _ | exact ih2 _ _ _ _ _ _ _ _ | exact ih3 _ _ _ _ _ _ _ _ | exact impl_GoodRelabel.mono _ _ _ _ _ _ _ _ | exact impl_quote.mono _ _ | exact LeO.refl _ | exact LeO.none _ | refine LeO.ite ?_ ?_ | refine LeO.bind ?_ (fun _ => ?_)
   | exact ih0 _ _ _ _ _ _ _ _
   | exact ih1 _ _ _ _ _ _ _ _
   | exact ih2 _ _ _ _ _ _ _ _
   | exact ih3 _ _ _ _ _ _ _ _
   | exact impl_GoodRelabel.mono _ _ _ _ _ _ _ _
   | exact impl_quote.mono _ _
   | exact LeO.none _
   | refine LeO.ite ?_ ?_
   | refine LeO.bind ?_ (fun _ => ?_)
  ·intro y0 y1 y2 y3 y4 y5 y6 y7
   unfold impl_RelabelText.j1
   repeat' first
   | with_reducible first | exact ih0 _ _ _ _ _ _ _ _ | exact ih1 _ _ _ _ _ _ _ _ | exact ih2 _ _ _ _ _ _ _ _ | exact ih3 _ _ _ _ _ _ _ _ | exact impl_GoodRelabel.mono _ _ _ _ _ _ _ _ | exact impl_quote.mono _ _ | exact LeO.refl _ | exact LeO.none _ | refine LeO.ite ?_ ?_ | refine LeO.bind ?_ (fun _ => ?_)
   | exact ih0 _ _ _ _ _ _ _ _
   | exact ih1 _ _ _ _ _ _ _ _
   | exact ih2 _ _ _ _ _ _ _ _
   | exact ih3 _ _ _ _ _ _ _ _
   | exact impl_GoodRelabel.mono _ _ _ _ _ _ _ _
   | exact impl_quote.mono _ _
   | exact LeO.none _
   | refine LeO.ite ?_ ?_
   | refine LeO.bind ?_ (fun _ => ?_)
  ·intro y0 y1 y2 y3 y4 y5 y6 y7
   unfold impl_RelabelText.j2
   repeat' first
   | with_reducible first | exact ih0 _ _ _ _ _ _ _ _ | exact ih1 _ _ _ _ _ _ _ _ | exact ih2 _ _ _ _ _ _ _ _ | exact ih3 _ _ _ _ _ _ _ _ | exact impl_GoodRelabel.mono _ _ _ _ _ _ _ _ | exact impl_quote.mono _ _ | exact LeO.refl _ | exact LeO.none _ | refine LeO.ite ?_ ?_ | refine LeO.bind ?_ (fun _ => ?_)
   | exact ih0 _ _ _ _ _ _ _ _
   | exact ih1 _ _ _ _ _ _ _ _
   | exact ih2 _ _ _ _ _ _ _ _
   | exact ih3 _ _ _ _ _ _ _ _
   | exact impl_GoodRelabel.mono _ _ _ _ _ _ _ _
   | exact impl_quote.mono _ _
   | exact LeO.none _
   | refine LeO.ite ?_ ?_
   | refine LeO.bind ?_ (fun _ => ?_)
  ·intro y0 y1 y2 y3 y4 y5 y6 y7
   unfold impl_RelabelText.j3
   repeat' first
   | with_reducible first | exact ih0 _ _ _ _ _ _ _ _ | exact ih1 _ _ _ _ _ _ _ _ | exact ih2 _ _ _ _ _ _ _ _ | exact ih3 _ _ _ _ _ _ _ _ | exact impl_GoodRelabel.mono _ _ _ _ _ _ _ _ | exact impl_quote.mono _ _ | exact LeO.refl _ | exact LeO.none _ | refine LeO.ite ?_ ?_ | refine LeO.bind ?_ (fun _ => ?_)
   | exact ih0 _ _ _ _ _ _ _ _
   | exact ih1 _ _ _ _ _ _ _ _
   | exact ih2 _ _ _ _ _ _ _ _
   | exact ih3 _ _ _ _ _ _ _ _
   | exact impl_GoodRelabel.mono _ _ _ _ _ _ _ _
   | exact impl_quote.mono _ _
   | exact LeO.none _
   | refine LeO.ite ?_ ?_
   | refine LeO.bind ?_ (fun _ => ?_)
theorem impl_RelabelText.mono : ∀ a0 a1 a2 a3 a4 a5 a6 k, LeO (impl_RelabelText.f k a0 a1 a2 a3 a4 a5 a6) (impl_RelabelText.f (k + 1) a0 a1 a2 a3 a4 a5 a6) := by
 intro a0 a1 a2 a3 a4 a5 a6 k
 obtain ⟨ih0, ih1, ih2, ih3⟩ := impl_RelabelText.mono_l k
 unfold impl_RelabelText.f
 repeat' first
   | with_reducible first | exact ih0 _ _ _ _ _ _ _ _ | exact ih1 _ _ _ _ _ _ _ _ | exact ih2 _ _ _ _ _ _ _ _ | exact ih3 _ _ _ _ _ _ _ _ | exact impl_GoodRelabel.mono _ _ _ _ _ _ _ _ | exact impl_quote.mono _ _ | exact LeO.refl _ | exact LeO.none _ | refine LeO.ite ?_ ?_ | refine LeO.bind ?_ (fun _ => ?_)
   | exact ih0 _ _ _ _ _ _ _ _
   | exact ih1 _ _ _ _ _ _ _ _
   | exact ih2 _ _ _ _ _ _ _ _
   | exact ih3 _ _ _ _ _ _ _ _
   | exact impl_GoodRelabel.mono _ _ _ _ _ _ _ _
   | exact impl_quote.mono _ _
   | exact LeO.none _
   | refine LeO.ite ?_ ?_
   | refine LeO.bind ?_ (fun _ => ?_)
set_option maxHeartbeats 8000000 in
set_option maxRecDepth 100000 in
theorem impl_RelabelText.calls (k : Nat) (a0_0 : Int) (A0_1 : Option Addr) (c0_1 : Nat) (l0_1 : List ByteArray) (a0_2 : ByteArray) (a0_3 : ByteArray) (a0_4 : ByteArray) (a0_5 : ByteArray) (a0_6 : Int) (r : ByteArray) (w : World) (hr0_1 : Kd.C Kd.string w A0_1 l0_1.length l0_1) (hc0_1 : l0_1.length ≤ c0_1) (h : impl_RelabelText.f k a0_0 l0_1 a0_2 a0_3 a0_4 a0_5 a0_6 = some r) (hT0 : Tg0 w := by exact Tg0.below hT0 bg_) (hT3 : Tg3 w := by exact Tg3.below hT3 bg_) :
  Calls Tryd.prog 18 #[.agg #[.int .i64 a0_0, .slice A0_1 l0_1.length c0_1, .string a0_2, .string a0_3, .string a0_4, .string a0_5, .int .i64 a0_6]] w fun e w' => e = .returned (.string r) ∧ Below w.heap.size w w' := by
 have HRT0 := am_ hT0.c
 have hu38 := Tryd.underlying38
 have HR0_1 := am_ hr0_1
 have HC0_1 := am_ hc0_1
 clear hr0_1 hc0_1
 have HB := am_ (Below.refl w.heap.size w)
 have H : ((impl_GoodRelabel.f k a0_0 l0_1 a0_2 a0_3 a0_4 a0_5 a0_6).bind fun t1002 => (if t1002 = true then (if 0 ≤ a0_0 then (if a0_0 < 9 then (if (l0_1.length : Int) > 0 then ((strings_Join.f l0_1 (⟨#[44]⟩ : ByteArray)).bind fun t1004 => (if 6 + t1004.size ≤ 9223372036854775807 then (if (rdOf ByteArray.empty lT0 a0_0).size + ((⟨#[32, 102, 114, 111, 109, 32]⟩ : ByteArray) ++ t1004).size ≤ 9223372036854775807 then (impl_RelabelText.j0 k ((rdOf ByteArray.empty lT0 a0_0) ++ ((⟨#[32, 102, 114, 111, 109, 32]⟩ : ByteArray) ++ t1004)) a0_0 l0_1 a0_2 a0_3 a0_4 a0_5 a0_6) else (none)) else (none))) else (impl_RelabelText.j0 k (rdOf ByteArray.empty lT0 a0_0) a0_0 l0_1 a0_2 a0_3 a0_4 a0_5 a0_6)) else (none)) else (none)) else (some (⟨#[]⟩ : ByteArray)))) = some r := h
 clear h
 replace H := Option.bind_eq_some_iff.mp H
 obtain ⟨t1002, A20, H⟩ := H
 replace H : (if t1002 = true then (if 0 ≤ a0_0 then (if a0_0 < 9 then (if (l0_1.length : Int) > 0 then ((strings_Join.f l0_1 (⟨#[44]⟩ : ByteArray)).bind fun t1004 => (if 6 + t1004.size ≤ 9223372036854775807 then (if (rdOf ByteArray.empty lT0 a0_0).size + ((⟨#[32, 102, 114, 111, 109, 32]⟩ : ByteArray) ++ t1004).size ≤ 9223372036854775807 then (impl_RelabelText.j0 k ((rdOf ByteArray.empty lT0 a0_0) ++ ((⟨#[32, 102, 114, 111, 109, 32]⟩ : ByteArray) ++ t1004)) a0_0 l0_1 a0_2 a0_3 a0_4 a0_5 a0_6) else (none)) else (none))) else (impl_RelabelText.j0 k (rdOf ByteArray.empty lT0 a0_0) a0_0 l0_1 a0_2 a0_3 a0_4 a0_5 a0_6)) else (none)) else (none)) else (some (⟨#[]⟩ : ByteArray))) = some r := H
 have A2 := am_ A20
 clear A20
 by_cases c3 : t1002 = true
 ·subst c3
  have H1 : (if 0 ≤ a0_0 then (if a0_0 < 9 then (if (l0_1.length : Int) > 0 then ((strings_Join.f l0_1 (⟨#[44]⟩ : ByteArray)).bind fun t1004 => (if 6 + t1004.size ≤ 9223372036854775807 then (if (rdOf ByteArray.empty lT0 a0_0).size + ((⟨#[32, 102, 114, 111, 109, 32]⟩ : ByteArray) ++ t1004).size ≤ 9223372036854775807 then (impl_RelabelText.j0 k ((rdOf ByteArray.empty lT0 a0_0) ++ ((⟨#[32, 102, 114, 111, 109, 32]⟩ : ByteArray) ++ t1004)) a0_0 l0_1 a0_2 a0_3 a0_4 a0_5 a0_6) else (none)) else (none))) else (impl_RelabelText.j0 k (rdOf ByteArray.empty lT0 a0_0) a0_0 l0_1 a0_2 a0_3 a0_4 a0_5 a0_6)) else (none)) else (none)) = some r := by rw [if_pos rfl] at H; exact H
  clear H
  have H := H1
  clear H1
  by_cases c4 : 0 ≤ a0_0
  ·rw [if_pos c4] at H
   have c4b0 : decide (0 ≤ a0_0) = true := decide_eq_true c4
   clear c4
   by_cases c5 : a0_0 < 9
   ·rw [if_pos c5] at H
    have c5b0 : decide (a0_0 < 9) = true := decide_eq_true c5
    clear c5
    have HC6 := am_ H
    clear H
    go_enter Tryd.func18, Tryd.ntmps18
    go_upto_if 14 with (first | ((with_reducible refine gate_dst (N := 1) rfl ?_); refine bx_ 1 #[.int .i64 a0_0, .slice A0_1 l0_1.length c0_1, .string a0_2, .string a0_3, .string a0_4, .string a0_5, .int .i64 a0_6] 38 ?_; intro gb1001 hg w7 hbox hb; have BK1001 := am_ (hbox); have GW1001 := am_ (gs_ hg : w.heap.size ≤ gb1001); replace HB := am_ (below_step bl_ hb); have GE1001 := GW1001; clear hb hbox hg; have hcz8_0 : w7.cell? ⟨gb1001, 0, none⟩ = some (.int .i64 a0_0) := (blk_cell BK1001.out 0).trans rfl; have hcz8_1 : w7.cell? ⟨gb1001, 1, none⟩ = some (.slice A0_1 l0_1.length c0_1) := (blk_cell BK1001.out 1).trans rfl; have hcz8_2 : w7.cell? ⟨gb1001, 2, none⟩ = some (.string a0_2) := (blk_cell BK1001.out 2).trans rfl; have hcz8_3 : w7.cell? ⟨gb1001, 3, none⟩ = some (.string a0_3) := (blk_cell BK1001.out 3).trans rfl; have hcz8_4 : w7.cell? ⟨gb1001, 4, none⟩ = some (.string a0_4) := (blk_cell BK1001.out 4).trans rfl; have hcz8_5 : w7.cell? ⟨gb1001, 5, none⟩ = some (.string a0_5) := (blk_cell BK1001.out 5).trans rfl; have hcz8_6 : w7.cell? ⟨gb1001, 6, none⟩ = some (.int .i64 a0_6) := (blk_cell BK1001.out 6).trans rfl; have hfz8_0 := bf_ BK1001 0; have hfz8_1 := bf_ BK1001 1; have hfz8_2 := bf_ BK1001 2; have hfz8_3 := bf_ BK1001 3; have hfz8_4 := bf_ BK1001 4; have hfz8_5 := bf_ BK1001 5; have hfz8_6 := bf_ BK1001 6) | ((with_reducible refine gate_callee (f := 35) rfl ?_); refine goesL_ (some 5) rfl rfl Tryd.func35 (by kernel_rfl) rfl #[.agg #[.int .i64 a0_0, .slice A0_1 l0_1.length c0_1, .string a0_2, .string a0_3, .string a0_4, .string a0_5, .int .i64 a0_6]] rfl ag_ ?_; (with_reducible refine (impl_GoodRelabel.calls k a0_0 _ _ l0_1 a0_2 a0_3 a0_4 a0_5 a0_6 true _ ?side1 ?side2 A2.out).mono ?_); (case side1 => exact cc_ (Kd.C_below HR0_1.out HB.out)); (case side2 => exact HC0_1.out); rintro e w9 ⟨rfl, hb⟩; refine ⟨_, rfl, ?_⟩; replace BK1001 := am_ (blk_below (g := gb1001) (vk_ BK1001) hb); replace HB := am_ (below_step bg_ hb); (try clear hb); (try clear hb2); (try clear hk); (try clear hi); have hcz10_0 : w9.cell? ⟨gb1001, 0, none⟩ = some (.int .i64 a0_0) := (blk_cell BK1001.out 0).trans rfl; have hcz10_1 : w9.cell? ⟨gb1001, 1, none⟩ = some (.slice A0_1 l0_1.length c0_1) := (blk_cell BK1001.out 1).trans rfl; have hcz10_2 : w9.cell? ⟨gb1001, 2, none⟩ = some (.string a0_2) := (blk_cell BK1001.out 2).trans rfl; have hcz10_3 : w9.cell? ⟨gb1001, 3, none⟩ = some (.string a0_3) := (blk_cell BK1001.out 3).trans rfl; have hcz10_4 : w9.cell? ⟨gb1001, 4, none⟩ = some (.string a0_4) := (blk_cell BK1001.out 4).trans rfl; have hcz10_5 : w9.cell? ⟨gb1001, 5, none⟩ = some (.string a0_5) := (blk_cell BK1001.out 5).trans rfl; have hcz10_6 : w9.cell? ⟨gb1001, 6, none⟩ = some (.int .i64 a0_6) := (blk_cell BK1001.out 6).trans rfl; have hfz10_0 := bf_ BK1001 0; have hfz10_1 := bf_ BK1001 1; have hfz10_2 := bf_ BK1001 2; have hfz10_3 := bf_ BK1001 3; have hfz10_4 := bf_ BK1001 4; have hfz10_5 := bf_ BK1001 5; have hfz10_6 := bf_ BK1001 6; have p1003 : 0 ≤ (a0_0 : Int) := od_; have q1003 : a0_0 < (lT0.length : Int) := od_; have ql1003 : ((a0_0 : Int) < (9 : Int)) = True := eq_true (od_); obtain ⟨ad1003, e1003, hx1003_0⟩ := Kd.at_string HRT0.out a0_0 p1003 q1003; obtain rfl : (⟨0, 0, none⟩ : Addr) = ad1003 := (by injection e1003); (first | simp only [add_plain] at hx1003_0 | simp only [add_at] at hx1003_0 | simp only [Addr.add, Nat.zero_add] at hx1003_0 | skip); replace hx1003_0 := kp_ HB hx1003_0; replace p1003 := eq_true p1003; replace q1003 := eq_true q1003))
    (try simp only [Act.put, List.setIfInBounds_toArray, List.set_cons_zero, List.set_cons_succ])
    go_cut [3] (fun v3 wc => ∃ (kq : Nat) (x3_5 : ByteArray), v3 = .string x3_5 ∧ Aside0 (impl_RelabelText.j0 kq x3_5 a0_0 l0_1 a0_2 a0_3 a0_4 a0_5 a0_6 = some r) ∧ Aside0 (kq ≤ k) ∧ Aside0 (wc.heap[gb1001]? = some (.cells #[.int .i64 a0_0, (.slice A0_1 l0_1.length c0_1), .string a0_2, .string a0_3, .string a0_4, .string a0_5, .int .i64 a0_6] 38 (0, 0))) ∧ Aside0 (Below w.heap.size w wc))
    case first =>
     have H := HC6.out
     clear HC6
     by_cases c11 : (l0_1.length : Int) > 0
     ·rw [if_pos c11] at H
      have c11b0 : decide (0 < (l0_1.length : Int)) = true := decide_eq_true c11
      have c11b1 : decide (0 < l0_1.length) = true := decide_eq_true (by omega)
      have c11b2 : 0 < l0_1.length := by omega
      clear c11
      (first | rw [c11b0] | (simp only [i64_w, i32_w]; rw [c11b0]) | (rw [c11b8]; simp only [Bool.not_true, Bool.not_false]) | skip)
      replace H := Option.bind_eq_some_iff.mp H
      obtain ⟨t1004, A120, H⟩ := H
      replace H : (if 6 + t1004.size ≤ 9223372036854775807 then (if (rdOf ByteArray.empty lT0 a0_0).size + ((⟨#[32, 102, 114, 111, 109, 32]⟩ : ByteArray) ++ t1004).size ≤ 9223372036854775807 then (impl_RelabelText.j0 k ((rdOf ByteArray.empty lT0 a0_0) ++ ((⟨#[32, 102, 114, 111, 109, 32]⟩ : ByteArray) ++ t1004)) a0_0 l0_1 a0_2 a0_3 a0_4 a0_5 a0_6) else (none)) else (none)) = some r := H
      have A12 := am_ A120
      clear A120
      by_cases c13 : 6 + t1004.size ≤ 9223372036854775807
      ·rw [if_pos c13] at H
       have c13b0 := eq_true c13
       have c13b1 : decide (6 + t1004.size ≤ 9223372036854775807) = true := decide_eq_true c13
       try have c13b2 : (9223372036854775807 < 6 + t1004.size) = False := eq_false (Nat.not_lt.2 c13)
       by_cases c14 : (rdOf ByteArray.empty lT0 a0_0).size + ((⟨#[32, 102, 114, 111, 109, 32]⟩ : ByteArray) ++ t1004).size ≤ 9223372036854775807
       ·rw [if_pos c14] at H
        have c14b0 := eq_true c14
        have c14b1 : decide ((rdOf ByteArray.empty lT0 a0_0).size + ((⟨#[32, 102, 114, 111, 109, 32]⟩ : ByteArray) ++ t1004).size ≤ 9223372036854775807) = true := decide_eq_true c14
        try have c14b2 : (9223372036854775807 < (rdOf ByteArray.empty lT0 a0_0).size + ((⟨#[32, 102, 114, 111, 109, 32]⟩ : ByteArray) ++ t1004).size) = False := eq_false (Nat.not_lt.2 c14)
        try (have c14b3 := c14b2; simp only [ByteArray.size_append, sz_mk_, List.size_toArray, List.length_cons, List.length_nil, Nat.reduceAdd] at c14b3)
        have H' := am_ H
        clear H
        have hcz15_0 : w9.cell? ⟨gb1001, 0, none⟩ = some (.int .i64 a0_0) := (blk_cell BK1001.out 0).trans rfl
        have hcz15_1 : w9.cell? ⟨gb1001, 1, none⟩ = some (.slice A0_1 l0_1.length c0_1) := (blk_cell BK1001.out 1).trans rfl
        have hcz15_2 : w9.cell? ⟨gb1001, 2, none⟩ = some (.string a0_2) := (blk_cell BK1001.out 2).trans rfl
        have hcz15_3 : w9.cell? ⟨gb1001, 3, none⟩ = some (.string a0_3) := (blk_cell BK1001.out 3).trans rfl
        have hcz15_4 : w9.cell? ⟨gb1001, 4, none⟩ = some (.string a0_4) := (blk_cell BK1001.out 4).trans rfl
        have hcz15_5 : w9.cell? ⟨gb1001, 5, none⟩ = some (.string a0_5) := (blk_cell BK1001.out 5).trans rfl
        have hcz15_6 : w9.cell? ⟨gb1001, 6, none⟩ = some (.int .i64 a0_6) := (blk_cell BK1001.out 6).trans rfl
        have hfz15_0 := bf_ BK1001 0
        have hfz15_1 := bf_ BK1001 1
        have hfz15_2 := bf_ BK1001 2
        have hfz15_3 := bf_ BK1001 3
        have hfz15_4 := bf_ BK1001 4
        have hfz15_5 := bf_ BK1001 5
        have hfz15_6 := bf_ BK1001 6
        go_wp2_with (first | ((with_reducible refine gate_callee (f := 26) rfl ?_); refine goesL_ (some 18) rfl rfl Tryd.func26 (by kernel_rfl) rfl #[.slice A0_1 l0_1.length c0_1, .string (⟨#[44]⟩ : ByteArray)] rfl ag_ ?_; (with_reducible refine (strings_Join.calls _ _ l0_1 (⟨#[44]⟩ : ByteArray) t1004 _ ?side1 ?side2 A12.out).mono ?_); (case side1 => exact cc_ (Kd.C_below HR0_1.out HB.out)); (case side2 => exact HC0_1.out); rintro e w16 ⟨rfl, hb⟩; refine ⟨_, rfl, ?_⟩; replace BK1001 := am_ (blk_below (g := gb1001) (vk_ BK1001) hb); replace HB := am_ (below_step bg_ hb); (try clear hb); (try clear hb2); (try clear hk); (try clear hi)))
        go_meet
        case rel => exact ⟨_, ((rdOf ByteArray.empty lT0 a0_0) ++ ((⟨#[32, 102, 114, 111, 109, 32]⟩ : ByteArray) ++ t1004)), rs_, H', ⟨by first | omega | exact Nat.le_refl _⟩, ⟨vk_ BK1001⟩, ⟨bg_⟩⟩
       ·rw [if_neg c14] at H
        exact absurd H (by simp)
      ·rw [if_neg c13] at H
       exact absurd H (by simp)
     ·rw [if_neg c11] at H
      have c11b0 : decide (0 < (l0_1.length : Int)) = false := decide_eq_false c11
      have c11b1 : decide (0 < l0_1.length) = false := decide_eq_false (by omega)
      have c11b2 : ¬ 0 < l0_1.length := by omega
      clear c11
      (first | rw [c11b0] | (simp only [i64_w, i32_w]; rw [c11b0]) | (rw [c11b8]; simp only [Bool.not_true, Bool.not_false]) | skip)
      have H' := am_ H
      clear H
      go_wp2
      go_meet
      case rel => exact ⟨_, (rdOf ByteArray.empty lT0 a0_0), rs_, H', ⟨by first | omega | exact Nat.le_refl _⟩, ⟨vk_ BK1001⟩, ⟨bg_⟩⟩
    case rest =>
     clear HC6
     try clear c1
     try clear p1
     try clear q1
     try clear hx1
     try clear c2
     try clear p2
     try clear c3
     try clear c4
     try clear c4b0
     try clear c5
     try clear c5b0
     try clear p10
     try clear q10
     try clear hx10
     try clear c11
     try clear c11b0
     try clear c11b1
     try clear c13
     try clear c13b0
     try clear c13b1
     try clear c13b2
     try clear c14
     try clear c14b0
     try clear c14b1
     try clear c14b2
     try clear hcz10_0
     try clear hcz10_1
     try clear hcz10_2
     try clear hcz10_3
     try clear hcz10_4
     try clear hcz10_5
     try clear hcz10_6
     try clear hcz15_0
     try clear hcz15_1
     try clear hcz15_2
     try clear hcz15_3
     try clear hcz15_4
     try clear hcz15_5
     try clear hcz15_6
     try clear hcz8_0
     try clear hcz8_1
     try clear hcz8_2
     try clear hcz8_3
     try clear hcz8_4
     try clear hcz8_5
     try clear hcz8_6
     try clear hfz10_0
     try clear hfz10_1
     try clear hfz10_2
     try clear hfz10_3
     try clear hfz10_4
     try clear hfz10_5
     try clear hfz10_6
     try clear hfz15_0
     try clear hfz15_1
     try clear hfz15_2
     try clear hfz15_3
     try clear hfz15_4
     try clear hfz15_5
     try clear hfz15_6
     try clear hfz8_0
     try clear hfz8_1
     try clear hfz8_2
     try clear hfz8_3
     try clear hfz8_4
     try clear hfz8_5
     try clear hfz8_6
     try clear hx1003_0
     try clear p1003
     try clear q1003
     obtain ⟨kq, x3_5, rfl, HA, HJ5, BK1001, HB⟩ := hcut
     cases kq with
     | zero => exact absurd HA.out (by simp [impl_RelabelText.j0])
     | succ kj5 =>
      have H := HA.out
      clear HA
      simp only [impl_RelabelText.j0] at H
      have HC17 := am_ H
      clear H
      have hcz18_0 : wc.cell? ⟨gb1001, 0, none⟩ = some (.int .i64 a0_0) := (blk_cell BK1001.out 0).trans rfl
      have hcz18_1 : wc.cell? ⟨gb1001, 1, none⟩ = some (.slice A0_1 l0_1.length c0_1) := (blk_cell BK1001.out 1).trans rfl
      have hcz18_2 : wc.cell? ⟨gb1001, 2, none⟩ = some (.string a0_2) := (blk_cell BK1001.out 2).trans rfl
      have hcz18_3 : wc.cell? ⟨gb1001, 3, none⟩ = some (.string a0_3) := (blk_cell BK1001.out 3).trans rfl
      have hcz18_4 : wc.cell? ⟨gb1001, 4, none⟩ = some (.string a0_4) := (blk_cell BK1001.out 4).trans rfl
      have hcz18_5 : wc.cell? ⟨gb1001, 5, none⟩ = some (.string a0_5) := (blk_cell BK1001.out 5).trans rfl
      have hcz18_6 : wc.cell? ⟨gb1001, 6, none⟩ = some (.int .i64 a0_6) := (blk_cell BK1001.out 6).trans rfl
      have hfz18_0 := bf_ BK1001 0
      have hfz18_1 := bf_ BK1001 1
      have hfz18_2 := bf_ BK1001 2
      have hfz18_3 := bf_ BK1001 3
      have hfz18_4 := bf_ BK1001 4
      have hfz18_5 := bf_ BK1001 5
      have hfz18_6 := bf_ BK1001 6
      go_upto_if 23 with (fail)
      go_cut [3] (fun v3 wc => ∃ (kq : Nat) (x3_16 : ByteArray), v3 = .string x3_16 ∧ Aside0 (impl_RelabelText.j1 kq x3_16 a0_0 l0_1 a0_2 a0_3 a0_4 a0_5 a0_6 = some r) ∧ Aside0 (kq ≤ kj5) ∧ Aside0 (wc.heap[gb1001]? = some (.cells #[.int .i64 a0_0, (.slice A0_1 l0_1.length c0_1), .string a0_2, .string a0_3, .string a0_4, .string a0_5, .int .i64 a0_6] 38 (0, 0))) ∧ Aside0 (Below w.heap.size w wc))
      case first =>
       have H := HC17.out
       clear HC17
       by_cases c19 : a0_2.toList = ([] : List UInt8)
       ·rw [if_pos c19] at H
        have c19b0 : (a0_2.toList == ([] : List UInt8)) = true := beq_iff_eq.mpr c19
        have c19b1 : (a0_2.toList != ([] : List UInt8)) = false := bne_eq_false_iff_eq.mpr c19
        try (have c19b8 : a0_2.toList.isEmpty = true := by have e_ := c19b1; rw [Go.Proofs.YtknlgignjbghkaaDoor.Gt.nil_bne] at e_; simpa using e_)
        clear c19
        (first | rw [c19b0] | (simp only [i64_w, i32_w]; rw [c19b0]) | (rw [c19b8]; simp only [Bool.not_true, Bool.not_false]) | skip)
        have H' := am_ H
        clear H
        go_wp2
        go_meet
        case rel => exact ⟨_, (x3_5), rs_, H', ⟨by have := HJ5.out; first | omega | exact Nat.le_refl _⟩, ⟨vk_ BK1001⟩, ⟨bg_⟩⟩
       ·rw [if_neg c19] at H
        have c19b0 : (a0_2.toList == ([] : List UInt8)) = false := beq_eq_false_iff_ne.mpr c19
        have c19b1 : (a0_2.toList != ([] : List UInt8)) = true := bne_iff_ne.mpr c19
        try (have c19b8 : a0_2.toList.isEmpty = false := by have e_ := c19b1; rw [Go.Proofs.YtknlgignjbghkaaDoor.Gt.nil_bne] at e_; simpa using e_)
        (first | rw [c19b0] | (simp only [i64_w, i32_w]; rw [c19b0]) | (rw [c19b8]; simp only [Bool.not_true, Bool.not_false]) | skip)
        replace H := Option.bind_eq_some_iff.mp H
        obtain ⟨t1005, A200, H⟩ := H
        replace H : (if 5 + t1005.size ≤ 9223372036854775807 then (if x3_5.size + ((⟨#[32, 115, 101, 112, 32]⟩ : ByteArray) ++ t1005).size ≤ 9223372036854775807 then (impl_RelabelText.j1 kj5 (x3_5 ++ ((⟨#[32, 115, 101, 112, 32]⟩ : ByteArray) ++ t1005)) a0_0 l0_1 a0_2 a0_3 a0_4 a0_5 a0_6) else (none)) else (none)) = some r := H
        have A20 := am_ A200
        clear A200
        by_cases c21 : 5 + t1005.size ≤ 9223372036854775807
        ·rw [if_pos c21] at H
         have c21b0 := eq_true c21
         have c21b1 : decide (5 + t1005.size ≤ 9223372036854775807) = true := decide_eq_true c21
         try have c21b2 : (9223372036854775807 < 5 + t1005.size) = False := eq_false (Nat.not_lt.2 c21)
         by_cases c22 : x3_5.size + ((⟨#[32, 115, 101, 112, 32]⟩ : ByteArray) ++ t1005).size ≤ 9223372036854775807
         ·rw [if_pos c22] at H
          have c22b0 := eq_true c22
          have c22b1 : decide (x3_5.size + ((⟨#[32, 115, 101, 112, 32]⟩ : ByteArray) ++ t1005).size ≤ 9223372036854775807) = true := decide_eq_true c22
          try have c22b2 : (9223372036854775807 < x3_5.size + ((⟨#[32, 115, 101, 112, 32]⟩ : ByteArray) ++ t1005).size) = False := eq_false (Nat.not_lt.2 c22)
          try (have c22b3 := c22b2; simp only [ByteArray.size_append, sz_mk_, List.size_toArray, List.length_cons, List.length_nil, Nat.reduceAdd] at c22b3)
          have H' := am_ H
          clear H
          have hcz23_0 : wc.cell? ⟨gb1001, 0, none⟩ = some (.int .i64 a0_0) := (blk_cell BK1001.out 0).trans rfl
          have hcz23_1 : wc.cell? ⟨gb1001, 1, none⟩ = some (.slice A0_1 l0_1.length c0_1) := (blk_cell BK1001.out 1).trans rfl
          have hcz23_2 : wc.cell? ⟨gb1001, 2, none⟩ = some (.string a0_2) := (blk_cell BK1001.out 2).trans rfl
          have hcz23_3 : wc.cell? ⟨gb1001, 3, none⟩ = some (.string a0_3) := (blk_cell BK1001.out 3).trans rfl
          have hcz23_4 : wc.cell? ⟨gb1001, 4, none⟩ = some (.string a0_4) := (blk_cell BK1001.out 4).trans rfl
          have hcz23_5 : wc.cell? ⟨gb1001, 5, none⟩ = some (.string a0_5) := (blk_cell BK1001.out 5).trans rfl
          have hcz23_6 : wc.cell? ⟨gb1001, 6, none⟩ = some (.int .i64 a0_6) := (blk_cell BK1001.out 6).trans rfl
          have hfz23_0 := bf_ BK1001 0
          have hfz23_1 := bf_ BK1001 1
          have hfz23_2 := bf_ BK1001 2
          have hfz23_3 := bf_ BK1001 3
          have hfz23_4 := bf_ BK1001 4
          have hfz23_5 := bf_ BK1001 5
          have hfz23_6 := bf_ BK1001 6
          go_wp2_with (first | ((with_reducible refine gate_callee (f := 36) rfl ?_); refine goesL_ (some 27) rfl rfl Tryd.func36 (by kernel_rfl) rfl #[.string a0_2] rfl ag_ ?_; (with_reducible refine (impl_quote.calls kj5 a0_2 t1005 _ A20.out).mono ?_); rintro e w24 ⟨rfl, hb⟩; refine ⟨_, rfl, ?_⟩; replace BK1001 := am_ (blk_below (g := gb1001) (vk_ BK1001) hb); replace HB := am_ (below_step bg_ hb); (try clear hb); (try clear hb2); (try clear hk); (try clear hi)))
          go_meet
          case rel => exact ⟨_, (x3_5 ++ ((⟨#[32, 115, 101, 112, 32]⟩ : ByteArray) ++ t1005)), rs_, H', ⟨by have := HJ5.out; first | omega | exact Nat.le_refl _⟩, ⟨vk_ BK1001⟩, ⟨bg_⟩⟩
         ·rw [if_neg c22] at H
          exact absurd H (by simp)
        ·rw [if_neg c21] at H
         exact absurd H (by simp)
      case rest =>
       clear HC17
       try clear c1
       try clear p1
       try clear q1
       try clear hx1
       try clear c2
       try clear p2
       try clear c3
       try clear c4
       try clear c4b0
       try clear c5
       try clear c5b0
       try clear p10
       try clear q10
       try clear hx10
       try clear c11
       try clear c11b0
       try clear c11b1
       try clear c13
       try clear c13b0
       try clear c13b1
       try clear c13b2
       try clear c14
       try clear c14b0
       try clear c14b1
       try clear c14b2
       try clear c18
       try clear c19
       try clear c19b0
       try clear c19b1
       try clear c21
       try clear c21b0
       try clear c21b1
       try clear c21b2
       try clear c22
       try clear c22b0
       try clear c22b1
       try clear c22b2
       try clear hcz10_0
       try clear hcz10_1
       try clear hcz10_2
       try clear hcz10_3
       try clear hcz10_4
       try clear hcz10_5
       try clear hcz10_6
       try clear hcz15_0
       try clear hcz15_1
       try clear hcz15_2
       try clear hcz15_3
       try clear hcz15_4
       try clear hcz15_5
       try clear hcz15_6
       try clear hcz18_0
       try clear hcz18_1
       try clear hcz18_2
       try clear hcz18_3
       try clear hcz18_4
       try clear hcz18_5
       try clear hcz18_6
       try clear hcz23_0
       try clear hcz23_1
       try clear hcz23_2
       try clear hcz23_3
       try clear hcz23_4
       try clear hcz23_5
       try clear hcz23_6
       try clear hcz8_0
       try clear hcz8_1
       try clear hcz8_2
       try clear hcz8_3
       try clear hcz8_4
       try clear hcz8_5
       try clear hcz8_6
       try clear hfz10_0
       try clear hfz10_1
       try clear hfz10_2
       try clear hfz10_3
       try clear hfz10_4
       try clear hfz10_5
       try clear hfz10_6
       try clear hfz15_0
       try clear hfz15_1
       try clear hfz15_2
       try clear hfz15_3
       try clear hfz15_4
       try clear hfz15_5
       try clear hfz15_6
       try clear hfz18_0
       try clear hfz18_1
       try clear hfz18_2
       try clear hfz18_3
       try clear hfz18_4
       try clear hfz18_5
       try clear hfz18_6
       try clear hfz23_0
       try clear hfz23_1
       try clear hfz23_2
       try clear hfz23_3
       try clear hfz23_4
       try clear hfz23_5
       try clear hfz23_6
       try clear hfz8_0
       try clear hfz8_1
       try clear hfz8_2
       try clear hfz8_3
       try clear hfz8_4
       try clear hfz8_5
       try clear hfz8_6
       try clear hx1003_0
       try clear p1
       try clear p10
       try clear p1003
       try clear p2
       try clear q1
       try clear q10
       try clear q1003
       obtain ⟨kq, x3_16, rfl, HA, HJ16, BK1001, HB⟩ := hcut
       cases kq with
       | zero => exact absurd HA.out (by simp [impl_RelabelText.j1])
       | succ kj16 =>
        have H := HA.out
        clear HA
        simp only [impl_RelabelText.j1] at H
        have HC25 := am_ H
        clear H
        have hcz26_0 : wc.cell? ⟨gb1001, 0, none⟩ = some (.int .i64 a0_0) := (blk_cell BK1001.out 0).trans rfl
        have hcz26_1 : wc.cell? ⟨gb1001, 1, none⟩ = some (.slice A0_1 l0_1.length c0_1) := (blk_cell BK1001.out 1).trans rfl
        have hcz26_2 : wc.cell? ⟨gb1001, 2, none⟩ = some (.string a0_2) := (blk_cell BK1001.out 2).trans rfl
        have hcz26_3 : wc.cell? ⟨gb1001, 3, none⟩ = some (.string a0_3) := (blk_cell BK1001.out 3).trans rfl
        have hcz26_4 : wc.cell? ⟨gb1001, 4, none⟩ = some (.string a0_4) := (blk_cell BK1001.out 4).trans rfl
        have hcz26_5 : wc.cell? ⟨gb1001, 5, none⟩ = some (.string a0_5) := (blk_cell BK1001.out 5).trans rfl
        have hcz26_6 : wc.cell? ⟨gb1001, 6, none⟩ = some (.int .i64 a0_6) := (blk_cell BK1001.out 6).trans rfl
        have hfz26_0 := bf_ BK1001 0
        have hfz26_1 := bf_ BK1001 1
        have hfz26_2 := bf_ BK1001 2
        have hfz26_3 := bf_ BK1001 3
        have hfz26_4 := bf_ BK1001 4
        have hfz26_5 := bf_ BK1001 5
        have hfz26_6 := bf_ BK1001 6
        go_upto_if 32 with (fail)
        go_cut [3] (fun v3 wc => ∃ (kq : Nat) (x3_24 : ByteArray), v3 = .string x3_24 ∧ Aside0 (impl_RelabelText.j2 kq x3_24 a0_0 l0_1 a0_2 a0_3 a0_4 a0_5 a0_6 = some r) ∧ Aside0 (kq ≤ kj16) ∧ Aside0 (wc.heap[gb1001]? = some (.cells #[.int .i64 a0_0, (.slice A0_1 l0_1.length c0_1), .string a0_2, .string a0_3, .string a0_4, .string a0_5, .int .i64 a0_6] 38 (0, 0))) ∧ Aside0 (Below w.heap.size w wc))
        case first =>
         have H := HC25.out
         clear HC25
         by_cases c27 : a0_3.toList = ([] : List UInt8)
         ·rw [if_pos c27] at H
          have c27b0 : (a0_3.toList == ([] : List UInt8)) = true := beq_iff_eq.mpr c27
          have c27b1 : (a0_3.toList != ([] : List UInt8)) = false := bne_eq_false_iff_eq.mpr c27
          try (have c27b8 : a0_3.toList.isEmpty = true := by have e_ := c27b1; rw [Go.Proofs.YtknlgignjbghkaaDoor.Gt.nil_bne] at e_; simpa using e_)
          clear c27
          (first | rw [c27b0] | (simp only [i64_w, i32_w]; rw [c27b0]) | (rw [c27b8]; simp only [Bool.not_true, Bool.not_false]) | skip)
          have H' := am_ H
          clear H
          go_wp2
          go_meet
          case rel => exact ⟨_, (x3_16), rs_, H', ⟨by have := HJ5.out; have := HJ16.out; first | omega | exact Nat.le_refl _⟩, ⟨vk_ BK1001⟩, ⟨bg_⟩⟩
         ·rw [if_neg c27] at H
          have c27b0 : (a0_3.toList == ([] : List UInt8)) = false := beq_eq_false_iff_ne.mpr c27
          have c27b1 : (a0_3.toList != ([] : List UInt8)) = true := bne_iff_ne.mpr c27
          try (have c27b8 : a0_3.toList.isEmpty = false := by have e_ := c27b1; rw [Go.Proofs.YtknlgignjbghkaaDoor.Gt.nil_bne] at e_; simpa using e_)
          (first | rw [c27b0] | (simp only [i64_w, i32_w]; rw [c27b0]) | (rw [c27b8]; simp only [Bool.not_true, Bool.not_false]) | skip)
          replace H := Option.bind_eq_some_iff.mp H
          obtain ⟨t1006, A280, H⟩ := H
          replace H : (if 6 + t1006.size ≤ 9223372036854775807 then (if x3_16.size + ((⟨#[32, 108, 105, 107, 101, 32]⟩ : ByteArray) ++ t1006).size ≤ 9223372036854775807 then (impl_RelabelText.j2 kj16 (x3_16 ++ ((⟨#[32, 108, 105, 107, 101, 32]⟩ : ByteArray) ++ t1006)) a0_0 l0_1 a0_2 a0_3 a0_4 a0_5 a0_6) else (none)) else (none)) = some r := H
          have A28 := am_ A280
          clear A280
          by_cases c29 : 6 + t1006.size ≤ 9223372036854775807
          ·rw [if_pos c29] at H
           have c29b0 := eq_true c29
           have c29b1 : decide (6 + t1006.size ≤ 9223372036854775807) = true := decide_eq_true c29
           try have c29b2 : (9223372036854775807 < 6 + t1006.size) = False := eq_false (Nat.not_lt.2 c29)
           by_cases c30 : x3_16.size + ((⟨#[32, 108, 105, 107, 101, 32]⟩ : ByteArray) ++ t1006).size ≤ 9223372036854775807
           ·rw [if_pos c30] at H
            have c30b0 := eq_true c30
            have c30b1 : decide (x3_16.size + ((⟨#[32, 108, 105, 107, 101, 32]⟩ : ByteArray) ++ t1006).size ≤ 9223372036854775807) = true := decide_eq_true c30
            try have c30b2 : (9223372036854775807 < x3_16.size + ((⟨#[32, 108, 105, 107, 101, 32]⟩ : ByteArray) ++ t1006).size) = False := eq_false (Nat.not_lt.2 c30)
            try (have c30b3 := c30b2; simp only [ByteArray.size_append, sz_mk_, List.size_toArray, List.length_cons, List.length_nil, Nat.reduceAdd] at c30b3)
            have H' := am_ H
            clear H
            have hcz31_0 : wc.cell? ⟨gb1001, 0, none⟩ = some (.int .i64 a0_0) := (blk_cell BK1001.out 0).trans rfl
            have hcz31_1 : wc.cell? ⟨gb1001, 1, none⟩ = some (.slice A0_1 l0_1.length c0_1) := (blk_cell BK1001.out 1).trans rfl
            have hcz31_2 : wc.cell? ⟨gb1001, 2, none⟩ = some (.string a0_2) := (blk_cell BK1001.out 2).trans rfl
            have hcz31_3 : wc.cell? ⟨gb1001, 3, none⟩ = some (.string a0_3) := (blk_cell BK1001.out 3).trans rfl
            have hcz31_4 : wc.cell? ⟨gb1001, 4, none⟩ = some (.string a0_4) := (blk_cell BK1001.out 4).trans rfl
            have hcz31_5 : wc.cell? ⟨gb1001, 5, none⟩ = some (.string a0_5) := (blk_cell BK1001.out 5).trans rfl
            have hcz31_6 : wc.cell? ⟨gb1001, 6, none⟩ = some (.int .i64 a0_6) := (blk_cell BK1001.out 6).trans rfl
            have hfz31_0 := bf_ BK1001 0
            have hfz31_1 := bf_ BK1001 1
            have hfz31_2 := bf_ BK1001 2
            have hfz31_3 := bf_ BK1001 3
            have hfz31_4 := bf_ BK1001 4
            have hfz31_5 := bf_ BK1001 5
            have hfz31_6 := bf_ BK1001 6
            go_wp2_with (first | ((with_reducible refine gate_callee (f := 36) rfl ?_); refine goesL_ (some 36) rfl rfl Tryd.func36 (by kernel_rfl) rfl #[.string a0_3] rfl ag_ ?_; (with_reducible refine (impl_quote.calls kj16 a0_3 t1006 _ A28.out).mono ?_); rintro e w32 ⟨rfl, hb⟩; refine ⟨_, rfl, ?_⟩; replace BK1001 := am_ (blk_below (g := gb1001) (vk_ BK1001) hb); replace HB := am_ (below_step bg_ hb); (try clear hb); (try clear hb2); (try clear hk); (try clear hi)))
            go_meet
            case rel => exact ⟨_, (x3_16 ++ ((⟨#[32, 108, 105, 107, 101, 32]⟩ : ByteArray) ++ t1006)), rs_, H', ⟨by have := HJ5.out; have := HJ16.out; first | omega | exact Nat.le_refl _⟩, ⟨vk_ BK1001⟩, ⟨bg_⟩⟩
           ·rw [if_neg c30] at H
            exact absurd H (by simp)
          ·rw [if_neg c29] at H
           exact absurd H (by simp)
        case rest =>
         clear HC25
         try clear c1
         try clear p1
         try clear q1
         try clear hx1
         try clear c2
         try clear p2
         try clear c3
         try clear c4
         try clear c4b0
         try clear c5
         try clear c5b0
         try clear p10
         try clear q10
         try clear hx10
         try clear c11
         try clear c11b0
         try clear c11b1
         try clear c13
         try clear c13b0
         try clear c13b1
         try clear c13b2
         try clear c14
         try clear c14b0
         try clear c14b1
         try clear c14b2
         try clear c18
         try clear c19
         try clear c19b0
         try clear c19b1
         try clear c21
         try clear c21b0
         try clear c21b1
         try clear c21b2
         try clear c22
         try clear c22b0
         try clear c22b1
         try clear c22b2
         try clear c26
         try clear c27
         try clear c27b0
         try clear c27b1
         try clear c29
         try clear c29b0
         try clear c29b1
         try clear c29b2
         try clear c30
         try clear c30b0
         try clear c30b1
         try clear c30b2
         try clear hcz10_0
         try clear hcz10_1
         try clear hcz10_2
         try clear hcz10_3
         try clear hcz10_4
         try clear hcz10_5
         try clear hcz10_6
         try clear hcz15_0
         try clear hcz15_1
         try clear hcz15_2
         try clear hcz15_3
         try clear hcz15_4
         try clear hcz15_5
         try clear hcz15_6
         try clear hcz18_0
         try clear hcz18_1
         try clear hcz18_2
         try clear hcz18_3
         try clear hcz18_4
         try clear hcz18_5
         try clear hcz18_6
         try clear hcz23_0
         try clear hcz23_1
         try clear hcz23_2
         try clear hcz23_3
         try clear hcz23_4
         try clear hcz23_5
         try clear hcz23_6
         try clear hcz26_0
         try clear hcz26_1
         try clear hcz26_2
         try clear hcz26_3
         try clear hcz26_4
         try clear hcz26_5
         try clear hcz26_6
         try clear hcz31_0
         try clear hcz31_1
         try clear hcz31_2
         try clear hcz31_3
         try clear hcz31_4
         try clear hcz31_5
         try clear hcz31_6
         try clear hcz8_0
         try clear hcz8_1
         try clear hcz8_2
         try clear hcz8_3
         try clear hcz8_4
         try clear hcz8_5
         try clear hcz8_6
         try clear hfz10_0
         try clear hfz10_1
         try clear hfz10_2
         try clear hfz10_3
         try clear hfz10_4
         try clear hfz10_5
         try clear hfz10_6
         try clear hfz15_0
         try clear hfz15_1
         try clear hfz15_2
         try clear hfz15_3
         try clear hfz15_4
         try clear hfz15_5
         try clear hfz15_6
         try clear hfz18_0
         try clear hfz18_1
         try clear hfz18_2
         try clear hfz18_3
         try clear hfz18_4
         try clear hfz18_5
         try clear hfz18_6
         try clear hfz23_0
         try clear hfz23_1
         try clear hfz23_2
         try clear hfz23_3
         try clear hfz23_4
         try clear hfz23_5
         try clear hfz23_6
         try clear hfz26_0
         try clear hfz26_1
         try clear hfz26_2
         try clear hfz26_3
         try clear hfz26_4
         try clear hfz26_5
         try clear hfz26_6
         try clear hfz31_0
         try clear hfz31_1
         try clear hfz31_2
         try clear hfz31_3
         try clear hfz31_4
         try clear hfz31_5
         try clear hfz31_6
         try clear hfz8_0
         try clear hfz8_1
         try clear hfz8_2
         try clear hfz8_3
         try clear hfz8_4
         try clear hfz8_5
         try clear hfz8_6
         try clear hx1003_0
         try clear p1
         try clear p10
         try clear p1003
         try clear p2
         try clear q1
         try clear q10
         try clear q1003
         obtain ⟨kq, x3_24, rfl, HA, HJ24, BK1001, HB⟩ := hcut
         cases kq with
         | zero => exact absurd HA.out (by simp [impl_RelabelText.j2])
         | succ kj24 =>
          have H := HA.out
          clear HA
          simp only [impl_RelabelText.j2] at H
          have HC33 := am_ H
          clear H
          have hcz34_0 : wc.cell? ⟨gb1001, 0, none⟩ = some (.int .i64 a0_0) := (blk_cell BK1001.out 0).trans rfl
          have hcz34_1 : wc.cell? ⟨gb1001, 1, none⟩ = some (.slice A0_1 l0_1.length c0_1) := (blk_cell BK1001.out 1).trans rfl
          have hcz34_2 : wc.cell? ⟨gb1001, 2, none⟩ = some (.string a0_2) := (blk_cell BK1001.out 2).trans rfl
          have hcz34_3 : wc.cell? ⟨gb1001, 3, none⟩ = some (.string a0_3) := (blk_cell BK1001.out 3).trans rfl
          have hcz34_4 : wc.cell? ⟨gb1001, 4, none⟩ = some (.string a0_4) := (blk_cell BK1001.out 4).trans rfl
          have hcz34_5 : wc.cell? ⟨gb1001, 5, none⟩ = some (.string a0_5) := (blk_cell BK1001.out 5).trans rfl
          have hcz34_6 : wc.cell? ⟨gb1001, 6, none⟩ = some (.int .i64 a0_6) := (blk_cell BK1001.out 6).trans rfl
          have hfz34_0 := bf_ BK1001 0
          have hfz34_1 := bf_ BK1001 1
          have hfz34_2 := bf_ BK1001 2
          have hfz34_3 := bf_ BK1001 3
          have hfz34_4 := bf_ BK1001 4
          have hfz34_5 := bf_ BK1001 5
          have hfz34_6 := bf_ BK1001 6
          go_upto_if 41 with (fail)
          go_cut [3] (fun v3 wc => ∃ (kq : Nat) (x3_32 : ByteArray), v3 = .string x3_32 ∧ Aside0 (impl_RelabelText.j3 kq x3_32 a0_0 l0_1 a0_2 a0_3 a0_4 a0_5 a0_6 = some r) ∧ Aside0 (kq ≤ kj24) ∧ Aside0 (wc.heap[gb1001]? = some (.cells #[.int .i64 a0_0, (.slice A0_1 l0_1.length c0_1), .string a0_2, .string a0_3, .string a0_4, .string a0_5, .int .i64 a0_6] 38 (0, 0))) ∧ Aside0 (Below w.heap.size w wc))
          case first =>
           have H := HC33.out
           clear HC33
           by_cases c35 : a0_4.toList = ([] : List UInt8)
           ·rw [if_pos c35] at H
            have c35b0 : (a0_4.toList == ([] : List UInt8)) = true := beq_iff_eq.mpr c35
            have c35b1 : (a0_4.toList != ([] : List UInt8)) = false := bne_eq_false_iff_eq.mpr c35
            try (have c35b8 : a0_4.toList.isEmpty = true := by have e_ := c35b1; rw [Go.Proofs.YtknlgignjbghkaaDoor.Gt.nil_bne] at e_; simpa using e_)
            clear c35
            (first | rw [c35b0] | (simp only [i64_w, i32_w]; rw [c35b0]) | (rw [c35b8]; simp only [Bool.not_true, Bool.not_false]) | skip)
            have H' := am_ H
            clear H
            go_wp2
            go_meet
            case rel => exact ⟨_, (x3_24), rs_, H', ⟨by have := HJ5.out; have := HJ16.out; have := HJ24.out; first | omega | exact Nat.le_refl _⟩, ⟨vk_ BK1001⟩, ⟨bg_⟩⟩
           ·rw [if_neg c35] at H
            have c35b0 : (a0_4.toList == ([] : List UInt8)) = false := beq_eq_false_iff_ne.mpr c35
            have c35b1 : (a0_4.toList != ([] : List UInt8)) = true := bne_iff_ne.mpr c35
            try (have c35b8 : a0_4.toList.isEmpty = false := by have e_ := c35b1; rw [Go.Proofs.YtknlgignjbghkaaDoor.Gt.nil_bne] at e_; simpa using e_)
            (first | rw [c35b0] | (simp only [i64_w, i32_w]; rw [c35b0]) | (rw [c35b8]; simp only [Bool.not_true, Bool.not_false]) | skip)
            by_cases c36 : 4 + a0_4.size ≤ 9223372036854775807
            ·rw [if_pos c36] at H
             have c36b0 := eq_true c36
             have c36b1 : decide (4 + a0_4.size ≤ 9223372036854775807) = true := decide_eq_true c36
             try have c36b2 : (9223372036854775807 < 4 + a0_4.size) = False := eq_false (Nat.not_lt.2 c36)
             by_cases c37 : x3_24.size + ((⟨#[32, 116, 111, 32]⟩ : ByteArray) ++ a0_4).size ≤ 9223372036854775807
             ·rw [if_pos c37] at H
              have c37b0 := eq_true c37
              have c37b1 : decide (x3_24.size + ((⟨#[32, 116, 111, 32]⟩ : ByteArray) ++ a0_4).size ≤ 9223372036854775807) = true := decide_eq_true c37
              try have c37b2 : (9223372036854775807 < x3_24.size + ((⟨#[32, 116, 111, 32]⟩ : ByteArray) ++ a0_4).size) = False := eq_false (Nat.not_lt.2 c37)
              try (have c37b3 := c37b2; simp only [ByteArray.size_append, sz_mk_, List.size_toArray, List.length_cons, List.length_nil, Nat.reduceAdd] at c37b3)
              have H' := am_ H
              clear H
              have hcz38_0 : wc.cell? ⟨gb1001, 0, none⟩ = some (.int .i64 a0_0) := (blk_cell BK1001.out 0).trans rfl
              have hcz38_1 : wc.cell? ⟨gb1001, 1, none⟩ = some (.slice A0_1 l0_1.length c0_1) := (blk_cell BK1001.out 1).trans rfl
              have hcz38_2 : wc.cell? ⟨gb1001, 2, none⟩ = some (.string a0_2) := (blk_cell BK1001.out 2).trans rfl
              have hcz38_3 : wc.cell? ⟨gb1001, 3, none⟩ = some (.string a0_3) := (blk_cell BK1001.out 3).trans rfl
              have hcz38_4 : wc.cell? ⟨gb1001, 4, none⟩ = some (.string a0_4) := (blk_cell BK1001.out 4).trans rfl
              have hcz38_5 : wc.cell? ⟨gb1001, 5, none⟩ = some (.string a0_5) := (blk_cell BK1001.out 5).trans rfl
              have hcz38_6 : wc.cell? ⟨gb1001, 6, none⟩ = some (.int .i64 a0_6) := (blk_cell BK1001.out 6).trans rfl
              have hfz38_0 := bf_ BK1001 0
              have hfz38_1 := bf_ BK1001 1
              have hfz38_2 := bf_ BK1001 2
              have hfz38_3 := bf_ BK1001 3
              have hfz38_4 := bf_ BK1001 4
              have hfz38_5 := bf_ BK1001 5
              have hfz38_6 := bf_ BK1001 6
              go_wp2
              go_meet
              case rel => exact ⟨_, (x3_24 ++ ((⟨#[32, 116, 111, 32]⟩ : ByteArray) ++ a0_4)), rs_, H', ⟨by have := HJ5.out; have := HJ16.out; have := HJ24.out; first | omega | exact Nat.le_refl _⟩, ⟨vk_ BK1001⟩, ⟨bg_⟩⟩
             ·rw [if_neg c37] at H
              exact absurd H (by simp)
            ·rw [if_neg c36] at H
             exact absurd H (by simp)
          case rest =>
           clear HC33
           try clear c1
           try clear p1
           try clear q1
           try clear hx1
           try clear c2
           try clear p2
           try clear c3
           try clear c4
           try clear c4b0
           try clear c5
           try clear c5b0
           try clear p10
           try clear q10
           try clear hx10
           try clear c11
           try clear c11b0
           try clear c11b1
           try clear c13
           try clear c13b0
           try clear c13b1
           try clear c13b2
           try clear c14
           try clear c14b0
           try clear c14b1
           try clear c14b2
           try clear c18
           try clear c19
           try clear c19b0
           try clear c19b1
           try clear c21
           try clear c21b0
           try clear c21b1
           try clear c21b2
           try clear c22
           try clear c22b0
           try clear c22b1
           try clear c22b2
           try clear c26
           try clear c27
           try clear c27b0
           try clear c27b1
           try clear c29
           try clear c29b0
           try clear c29b1
           try clear c29b2
           try clear c30
           try clear c30b0
           try clear c30b1
           try clear c30b2
           try clear c35
           try clear c35b0
           try clear c35b1
           try clear c36
           try clear c36b0
           try clear c36b1
           try clear c36b2
           try clear c37
           try clear c37b0
           try clear c37b1
           try clear c37b2
           try clear hcz10_0
           try clear hcz10_1
           try clear hcz10_2
           try clear hcz10_3
           try clear hcz10_4
           try clear hcz10_5
           try clear hcz10_6
           try clear hcz15_0
           try clear hcz15_1
           try clear hcz15_2
           try clear hcz15_3
           try clear hcz15_4
           try clear hcz15_5
           try clear hcz15_6
           try clear hcz18_0
           try clear hcz18_1
           try clear hcz18_2
           try clear hcz18_3
           try clear hcz18_4
           try clear hcz18_5
           try clear hcz18_6
           try clear hcz23_0
           try clear hcz23_1
           try clear hcz23_2
           try clear hcz23_3
           try clear hcz23_4
           try clear hcz23_5
           try clear hcz23_6
           try clear hcz26_0
           try clear hcz26_1
           try clear hcz26_2
           try clear hcz26_3
           try clear hcz26_4
           try clear hcz26_5
           try clear hcz26_6
           try clear hcz31_0
           try clear hcz31_1
           try clear hcz31_2
           try clear hcz31_3
           try clear hcz31_4
           try clear hcz31_5
           try clear hcz31_6
           try clear hcz34_0
           try clear hcz34_1
           try clear hcz34_2
           try clear hcz34_3
           try clear hcz34_4
           try clear hcz34_5
           try clear hcz34_6
           try clear hcz38_0
           try clear hcz38_1
           try clear hcz38_2
           try clear hcz38_3
           try clear hcz38_4
           try clear hcz38_5
           try clear hcz38_6
           try clear hcz8_0
           try clear hcz8_1
           try clear hcz8_2
           try clear hcz8_3
           try clear hcz8_4
           try clear hcz8_5
           try clear hcz8_6
           try clear hfz10_0
           try clear hfz10_1
           try clear hfz10_2
           try clear hfz10_3
           try clear hfz10_4
           try clear hfz10_5
           try clear hfz10_6
           try clear hfz15_0
           try clear hfz15_1
           try clear hfz15_2
           try clear hfz15_3
           try clear hfz15_4
           try clear hfz15_5
           try clear hfz15_6
           try clear hfz18_0
           try clear hfz18_1
           try clear hfz18_2
           try clear hfz18_3
           try clear hfz18_4
           try clear hfz18_5
           try clear hfz18_6
           try clear hfz23_0
           try clear hfz23_1
           try clear hfz23_2
           try clear hfz23_3
           try clear hfz23_4
           try clear hfz23_5
           try clear hfz23_6
           try clear hfz26_0
           try clear hfz26_1
           try clear hfz26_2
           try clear hfz26_3
           try clear hfz26_4
           try clear hfz26_5
           try clear hfz26_6
           try clear hfz31_0
           try clear hfz31_1
           try clear hfz31_2
           try clear hfz31_3
           try clear hfz31_4
           try clear hfz31_5
           try clear hfz31_6
           try clear hfz34_0
           try clear hfz34_1
           try clear hfz34_2
           try clear hfz34_3
           try clear hfz34_4
           try clear hfz34_5
           try clear hfz34_6
           try clear hfz38_0
           try clear hfz38_1
           try clear hfz38_2
           try clear hfz38_3
           try clear hfz38_4
           try clear hfz38_5
           try clear hfz38_6
           try clear hfz8_0
           try clear hfz8_1
           try clear hfz8_2
           try clear hfz8_3
           try clear hfz8_4
           try clear hfz8_5
           try clear hfz8_6
           try clear hx1003_0
           try clear p1
           try clear p10
           try clear p1003
           try clear p2
           try clear q1
           try clear q10
           try clear q1003
           obtain ⟨kq, x3_32, rfl, HA, HJ32, BK1001, HB⟩ := hcut
           cases kq with
           | zero => exact absurd HA.out (by simp [impl_RelabelText.j3])
           | succ kj32 =>
            have H := HA.out
            clear HA
            simp only [impl_RelabelText.j3] at H
            by_cases c39 : a0_5.toList = ([] : List UInt8)
            ·rw [if_pos c39] at H
             have c39b0 : (a0_5.toList == ([] : List UInt8)) = true := beq_iff_eq.mpr c39
             have c39b1 : (a0_5.toList != ([] : List UInt8)) = false := bne_eq_false_iff_eq.mpr c39
             try (have c39b8 : a0_5.toList.isEmpty = true := by have e_ := c39b1; rw [Go.Proofs.YtknlgignjbghkaaDoor.Gt.nil_bne] at e_; simpa using e_)
             clear c39
             by_cases c40 : a0_6 = 0
             ·rw [if_pos c40] at H
              have c40b0 : (a0_6 == 0) = true := beq_iff_eq.mpr c40
              have c40b1 : (a0_6 != 0) = false := bne_eq_false_iff_eq.mpr c40
              clear c40
              obtain rfl := Option.some.inj H
              have hcz41_0 : wc.cell? ⟨gb1001, 0, none⟩ = some (.int .i64 a0_0) := (blk_cell BK1001.out 0).trans rfl
              have hcz41_1 : wc.cell? ⟨gb1001, 1, none⟩ = some (.slice A0_1 l0_1.length c0_1) := (blk_cell BK1001.out 1).trans rfl
              have hcz41_2 : wc.cell? ⟨gb1001, 2, none⟩ = some (.string a0_2) := (blk_cell BK1001.out 2).trans rfl
              have hcz41_3 : wc.cell? ⟨gb1001, 3, none⟩ = some (.string a0_3) := (blk_cell BK1001.out 3).trans rfl
              have hcz41_4 : wc.cell? ⟨gb1001, 4, none⟩ = some (.string a0_4) := (blk_cell BK1001.out 4).trans rfl
              have hcz41_5 : wc.cell? ⟨gb1001, 5, none⟩ = some (.string a0_5) := (blk_cell BK1001.out 5).trans rfl
              have hcz41_6 : wc.cell? ⟨gb1001, 6, none⟩ = some (.int .i64 a0_6) := (blk_cell BK1001.out 6).trans rfl
              have hfz41_0 := bf_ BK1001 0
              have hfz41_1 := bf_ BK1001 1
              have hfz41_2 := bf_ BK1001 2
              have hfz41_3 := bf_ BK1001 3
              have hfz41_4 := bf_ BK1001 4
              have hfz41_5 := bf_ BK1001 5
              have hfz41_6 := bf_ BK1001 6
              go_wp2
              go_ret
              exact ⟨rf_, bg_⟩
             ·rw [if_neg c40] at H
              have c40b0 : (a0_6 == 0) = false := beq_eq_false_iff_ne.mpr c40
              have c40b1 : (a0_6 != 0) = true := bne_iff_ne.mpr c40
              replace H := Option.bind_eq_some_iff.mp H
              obtain ⟨t1007, A420, H⟩ := H
              replace H : (if 4 + t1007.size ≤ 9223372036854775807 then (if x3_32.size + ((⟨#[32, 98, 121, 32]⟩ : ByteArray) ++ t1007).size ≤ 9223372036854775807 then (some (x3_32 ++ ((⟨#[32, 98, 121, 32]⟩ : ByteArray) ++ t1007))) else (none)) else (none)) = some r := H
              have A42 := am_ A420
              clear A420
              by_cases c43 : 4 + t1007.size ≤ 9223372036854775807
              ·rw [if_pos c43] at H
               have c43b0 := eq_true c43
               have c43b1 : decide (4 + t1007.size ≤ 9223372036854775807) = true := decide_eq_true c43
               try have c43b2 : (9223372036854775807 < 4 + t1007.size) = False := eq_false (Nat.not_lt.2 c43)
               by_cases c44 : x3_32.size + ((⟨#[32, 98, 121, 32]⟩ : ByteArray) ++ t1007).size ≤ 9223372036854775807
               ·rw [if_pos c44] at H
                have c44b0 := eq_true c44
                have c44b1 : decide (x3_32.size + ((⟨#[32, 98, 121, 32]⟩ : ByteArray) ++ t1007).size ≤ 9223372036854775807) = true := decide_eq_true c44
                try have c44b2 : (9223372036854775807 < x3_32.size + ((⟨#[32, 98, 121, 32]⟩ : ByteArray) ++ t1007).size) = False := eq_false (Nat.not_lt.2 c44)
                try (have c44b3 := c44b2; simp only [ByteArray.size_append, sz_mk_, List.size_toArray, List.length_cons, List.length_nil, Nat.reduceAdd] at c44b3)
                obtain rfl := Option.some.inj H
                have hcz45_0 : wc.cell? ⟨gb1001, 0, none⟩ = some (.int .i64 a0_0) := (blk_cell BK1001.out 0).trans rfl
                have hcz45_1 : wc.cell? ⟨gb1001, 1, none⟩ = some (.slice A0_1 l0_1.length c0_1) := (blk_cell BK1001.out 1).trans rfl
                have hcz45_2 : wc.cell? ⟨gb1001, 2, none⟩ = some (.string a0_2) := (blk_cell BK1001.out 2).trans rfl
                have hcz45_3 : wc.cell? ⟨gb1001, 3, none⟩ = some (.string a0_3) := (blk_cell BK1001.out 3).trans rfl
                have hcz45_4 : wc.cell? ⟨gb1001, 4, none⟩ = some (.string a0_4) := (blk_cell BK1001.out 4).trans rfl
                have hcz45_5 : wc.cell? ⟨gb1001, 5, none⟩ = some (.string a0_5) := (blk_cell BK1001.out 5).trans rfl
                have hcz45_6 : wc.cell? ⟨gb1001, 6, none⟩ = some (.int .i64 a0_6) := (blk_cell BK1001.out 6).trans rfl
                have hfz45_0 := bf_ BK1001 0
                have hfz45_1 := bf_ BK1001 1
                have hfz45_2 := bf_ BK1001 2
                have hfz45_3 := bf_ BK1001 3
                have hfz45_4 := bf_ BK1001 4
                have hfz45_5 := bf_ BK1001 5
                have hfz45_6 := bf_ BK1001 6
                go_wp2_with (first | ((with_reducible refine gate_callee (f := 37) rfl ?_); refine goesL_ (some 62) rfl rfl Tryd.func37 (by kernel_rfl) rfl #[.int .i64 a0_6] rfl ag_ ?_; (with_reducible refine (impl_digitsOf.calls a0_6 t1007 _ A42.out).mono ?_); rintro e w46 ⟨rfl, hb⟩; refine ⟨_, rfl, ?_⟩; replace BK1001 := am_ (blk_below (g := gb1001) (vk_ BK1001) hb); replace HB := am_ (below_step bg_ hb); (try clear hb); (try clear hb2); (try clear hk); (try clear hi)))
                go_ret
                exact ⟨rf_, bg_⟩
               ·rw [if_neg c44] at H
                exact absurd H (by simp)
              ·rw [if_neg c43] at H
               exact absurd H (by simp)
            ·rw [if_neg c39] at H
             have c39b0 : (a0_5.toList == ([] : List UInt8)) = false := beq_eq_false_iff_ne.mpr c39
             have c39b1 : (a0_5.toList != ([] : List UInt8)) = true := bne_iff_ne.mpr c39
             try (have c39b8 : a0_5.toList.isEmpty = false := by have e_ := c39b1; rw [Go.Proofs.YtknlgignjbghkaaDoor.Gt.nil_bne] at e_; simpa using e_)
             replace H := Option.bind_eq_some_iff.mp H
             obtain ⟨t1008, A470, H⟩ := H
             replace H : (if 4 + t1008.size ≤ 9223372036854775807 then (if x3_32.size + ((⟨#[32, 97, 115, 32]⟩ : ByteArray) ++ t1008).size ≤ 9223372036854775807 then (if a0_6 = 0 then (some (x3_32 ++ ((⟨#[32, 97, 115, 32]⟩ : ByteArray) ++ t1008))) else ((impl_digitsOf.f a0_6).bind fun t1009 => (if 4 + t1009.size ≤ 9223372036854775807 then (if (x3_32 ++ ((⟨#[32, 97, 115, 32]⟩ : ByteArray) ++ t1008)).size + ((⟨#[32, 98, 121, 32]⟩ : ByteArray) ++ t1009).size ≤ 9223372036854775807 then (some ((x3_32 ++ ((⟨#[32, 97, 115, 32]⟩ : ByteArray) ++ t1008)) ++ ((⟨#[32, 98, 121, 32]⟩ : ByteArray) ++ t1009))) else (none)) else (none)))) else (none)) else (none)) = some r := H
             have A47 := am_ A470
             clear A470
             by_cases c48 : 4 + t1008.size ≤ 9223372036854775807
             ·rw [if_pos c48] at H
              have c48b0 := eq_true c48
              have c48b1 : decide (4 + t1008.size ≤ 9223372036854775807) = true := decide_eq_true c48
              try have c48b2 : (9223372036854775807 < 4 + t1008.size) = False := eq_false (Nat.not_lt.2 c48)
              by_cases c49 : x3_32.size + ((⟨#[32, 97, 115, 32]⟩ : ByteArray) ++ t1008).size ≤ 9223372036854775807
              ·rw [if_pos c49] at H
               have c49b0 := eq_true c49
               have c49b1 : decide (x3_32.size + ((⟨#[32, 97, 115, 32]⟩ : ByteArray) ++ t1008).size ≤ 9223372036854775807) = true := decide_eq_true c49
               try have c49b2 : (9223372036854775807 < x3_32.size + ((⟨#[32, 97, 115, 32]⟩ : ByteArray) ++ t1008).size) = False := eq_false (Nat.not_lt.2 c49)
               try (have c49b3 := c49b2; simp only [ByteArray.size_append, sz_mk_, List.size_toArray, List.length_cons, List.length_nil, Nat.reduceAdd] at c49b3)
               by_cases c50 : a0_6 = 0
               ·rw [if_pos c50] at H
                have c50b0 : (a0_6 == 0) = true := beq_iff_eq.mpr c50
                have c50b1 : (a0_6 != 0) = false := bne_eq_false_iff_eq.mpr c50
                clear c50
                obtain rfl := Option.some.inj H
                have hcz51_0 : wc.cell? ⟨gb1001, 0, none⟩ = some (.int .i64 a0_0) := (blk_cell BK1001.out 0).trans rfl
                have hcz51_1 : wc.cell? ⟨gb1001, 1, none⟩ = some (.slice A0_1 l0_1.length c0_1) := (blk_cell BK1001.out 1).trans rfl
                have hcz51_2 : wc.cell? ⟨gb1001, 2, none⟩ = some (.string a0_2) := (blk_cell BK1001.out 2).trans rfl
                have hcz51_3 : wc.cell? ⟨gb1001, 3, none⟩ = some (.string a0_3) := (blk_cell BK1001.out 3).trans rfl
                have hcz51_4 : wc.cell? ⟨gb1001, 4, none⟩ = some (.string a0_4) := (blk_cell BK1001.out 4).trans rfl
                have hcz51_5 : wc.cell? ⟨gb1001, 5, none⟩ = some (.string a0_5) := (blk_cell BK1001.out 5).trans rfl
                have hcz51_6 : wc.cell? ⟨gb1001, 6, none⟩ = some (.int .i64 a0_6) := (blk_cell BK1001.out 6).trans rfl
                have hfz51_0 := bf_ BK1001 0
                have hfz51_1 := bf_ BK1001 1
                have hfz51_2 := bf_ BK1001 2
                have hfz51_3 := bf_ BK1001 3
                have hfz51_4 := bf_ BK1001 4
                have hfz51_5 := bf_ BK1001 5
                have hfz51_6 := bf_ BK1001 6
                go_wp2_with (first | ((with_reducible refine gate_callee (f := 36) rfl ?_); refine goesL_ (some 53) rfl rfl Tryd.func36 (by kernel_rfl) rfl #[.string a0_5] rfl ag_ ?_; (with_reducible refine (impl_quote.calls kj32 a0_5 t1008 _ A47.out).mono ?_); rintro e w52 ⟨rfl, hb⟩; refine ⟨_, rfl, ?_⟩; replace BK1001 := am_ (blk_below (g := gb1001) (vk_ BK1001) hb); replace HB := am_ (below_step bg_ hb); (try clear hb); (try clear hb2); (try clear hk); (try clear hi); have hcz53_0 : w52.cell? ⟨gb1001, 0, none⟩ = some (.int .i64 a0_0) := (blk_cell BK1001.out 0).trans rfl; have hcz53_1 : w52.cell? ⟨gb1001, 1, none⟩ = some (.slice A0_1 l0_1.length c0_1) := (blk_cell BK1001.out 1).trans rfl; have hcz53_2 : w52.cell? ⟨gb1001, 2, none⟩ = some (.string a0_2) := (blk_cell BK1001.out 2).trans rfl; have hcz53_3 : w52.cell? ⟨gb1001, 3, none⟩ = some (.string a0_3) := (blk_cell BK1001.out 3).trans rfl; have hcz53_4 : w52.cell? ⟨gb1001, 4, none⟩ = some (.string a0_4) := (blk_cell BK1001.out 4).trans rfl; have hcz53_5 : w52.cell? ⟨gb1001, 5, none⟩ = some (.string a0_5) := (blk_cell BK1001.out 5).trans rfl; have hcz53_6 : w52.cell? ⟨gb1001, 6, none⟩ = some (.int .i64 a0_6) := (blk_cell BK1001.out 6).trans rfl; have hfz53_0 := bf_ BK1001 0; have hfz53_1 := bf_ BK1001 1; have hfz53_2 := bf_ BK1001 2; have hfz53_3 := bf_ BK1001 3; have hfz53_4 := bf_ BK1001 4; have hfz53_5 := bf_ BK1001 5; have hfz53_6 := bf_ BK1001 6))
                go_ret
                exact ⟨rf_, bg_⟩
               ·rw [if_neg c50] at H
                have c50b0 : (a0_6 == 0) = false := beq_eq_false_iff_ne.mpr c50
                have c50b1 : (a0_6 != 0) = true := bne_iff_ne.mpr c50
                replace H := Option.bind_eq_some_iff.mp H
                obtain ⟨t1009, A540, H⟩ := H
                replace H : (if 4 + t1009.size ≤ 9223372036854775807 then (if (x3_32 ++ ((⟨#[32, 97, 115, 32]⟩ : ByteArray) ++ t1008)).size + ((⟨#[32, 98, 121, 32]⟩ : ByteArray) ++ t1009).size ≤ 9223372036854775807 then (some ((x3_32 ++ ((⟨#[32, 97, 115, 32]⟩ : ByteArray) ++ t1008)) ++ ((⟨#[32, 98, 121, 32]⟩ : ByteArray) ++ t1009))) else (none)) else (none)) = some r := H
                have A54 := am_ A540
                clear A540
                by_cases c55 : 4 + t1009.size ≤ 9223372036854775807
                ·rw [if_pos c55] at H
                 have c55b0 := eq_true c55
                 have c55b1 : decide (4 + t1009.size ≤ 9223372036854775807) = true := decide_eq_true c55
                 try have c55b2 : (9223372036854775807 < 4 + t1009.size) = False := eq_false (Nat.not_lt.2 c55)
                 by_cases c56 : (x3_32 ++ ((⟨#[32, 97, 115, 32]⟩ : ByteArray) ++ t1008)).size + ((⟨#[32, 98, 121, 32]⟩ : ByteArray) ++ t1009).size ≤ 9223372036854775807
                 ·rw [if_pos c56] at H
                  have c56b0 := eq_true c56
                  have c56b1 : decide ((x3_32 ++ ((⟨#[32, 97, 115, 32]⟩ : ByteArray) ++ t1008)).size + ((⟨#[32, 98, 121, 32]⟩ : ByteArray) ++ t1009).size ≤ 9223372036854775807) = true := decide_eq_true c56
                  try have c56b2 : (9223372036854775807 < (x3_32 ++ ((⟨#[32, 97, 115, 32]⟩ : ByteArray) ++ t1008)).size + ((⟨#[32, 98, 121, 32]⟩ : ByteArray) ++ t1009).size) = False := eq_false (Nat.not_lt.2 c56)
                  try (have c56b3 := c56b2; simp only [ByteArray.size_append, sz_mk_, List.size_toArray, List.length_cons, List.length_nil, Nat.reduceAdd] at c56b3)
                  obtain rfl := Option.some.inj H
                  have hcz57_0 : wc.cell? ⟨gb1001, 0, none⟩ = some (.int .i64 a0_0) := (blk_cell BK1001.out 0).trans rfl
                  have hcz57_1 : wc.cell? ⟨gb1001, 1, none⟩ = some (.slice A0_1 l0_1.length c0_1) := (blk_cell BK1001.out 1).trans rfl
                  have hcz57_2 : wc.cell? ⟨gb1001, 2, none⟩ = some (.string a0_2) := (blk_cell BK1001.out 2).trans rfl
                  have hcz57_3 : wc.cell? ⟨gb1001, 3, none⟩ = some (.string a0_3) := (blk_cell BK1001.out 3).trans rfl
                  have hcz57_4 : wc.cell? ⟨gb1001, 4, none⟩ = some (.string a0_4) := (blk_cell BK1001.out 4).trans rfl
                  have hcz57_5 : wc.cell? ⟨gb1001, 5, none⟩ = some (.string a0_5) := (blk_cell BK1001.out 5).trans rfl
                  have hcz57_6 : wc.cell? ⟨gb1001, 6, none⟩ = some (.int .i64 a0_6) := (blk_cell BK1001.out 6).trans rfl
                  have hfz57_0 := bf_ BK1001 0
                  have hfz57_1 := bf_ BK1001 1
                  have hfz57_2 := bf_ BK1001 2
                  have hfz57_3 := bf_ BK1001 3
                  have hfz57_4 := bf_ BK1001 4
                  have hfz57_5 := bf_ BK1001 5
                  have hfz57_6 := bf_ BK1001 6
                  go_wp2_with (first | ((with_reducible refine gate_callee (f := 36) rfl ?_); refine goesL_ (some 53) rfl rfl Tryd.func36 (by kernel_rfl) rfl #[.string a0_5] rfl ag_ ?_; (with_reducible refine (impl_quote.calls kj32 a0_5 t1008 _ A47.out).mono ?_); rintro e w58 ⟨rfl, hb⟩; refine ⟨_, rfl, ?_⟩; replace BK1001 := am_ (blk_below (g := gb1001) (vk_ BK1001) hb); replace HB := am_ (below_step bg_ hb); (try clear hb); (try clear hb2); (try clear hk); (try clear hi); have hcz59_0 : w58.cell? ⟨gb1001, 0, none⟩ = some (.int .i64 a0_0) := (blk_cell BK1001.out 0).trans rfl; have hcz59_1 : w58.cell? ⟨gb1001, 1, none⟩ = some (.slice A0_1 l0_1.length c0_1) := (blk_cell BK1001.out 1).trans rfl; have hcz59_2 : w58.cell? ⟨gb1001, 2, none⟩ = some (.string a0_2) := (blk_cell BK1001.out 2).trans rfl; have hcz59_3 : w58.cell? ⟨gb1001, 3, none⟩ = some (.string a0_3) := (blk_cell BK1001.out 3).trans rfl; have hcz59_4 : w58.cell? ⟨gb1001, 4, none⟩ = some (.string a0_4) := (blk_cell BK1001.out 4).trans rfl; have hcz59_5 : w58.cell? ⟨gb1001, 5, none⟩ = some (.string a0_5) := (blk_cell BK1001.out 5).trans rfl; have hcz59_6 : w58.cell? ⟨gb1001, 6, none⟩ = some (.int .i64 a0_6) := (blk_cell BK1001.out 6).trans rfl; have hfz59_0 := bf_ BK1001 0; have hfz59_1 := bf_ BK1001 1; have hfz59_2 := bf_ BK1001 2; have hfz59_3 := bf_ BK1001 3; have hfz59_4 := bf_ BK1001 4; have hfz59_5 := bf_ BK1001 5; have hfz59_6 := bf_ BK1001 6) | ((with_reducible refine gate_callee (f := 37) rfl ?_); refine goesL_ (some 62) rfl rfl Tryd.func37 (by kernel_rfl) rfl #[.int .i64 a0_6] rfl ag_ ?_; (with_reducible refine (impl_digitsOf.calls a0_6 t1009 _ A54.out).mono ?_); rintro e w60 ⟨rfl, hb⟩; refine ⟨_, rfl, ?_⟩; replace BK1001 := am_ (blk_below (g := gb1001) (vk_ BK1001) hb); replace HB := am_ (below_step bg_ hb); (try clear hb); (try clear hb2); (try clear hk); (try clear hi)))
                  go_ret
                  exact ⟨rf_, bg_⟩
                 ·rw [if_neg c56] at H
                  exact absurd H (by simp)
                ·rw [if_neg c55] at H
                 exact absurd H (by simp)
              ·rw [if_neg c49] at H
               exact absurd H (by simp)
             ·rw [if_neg c48] at H
              exact absurd H (by simp)
   ·rw [if_neg c5] at H
    exact absurd H (by simp)
  ·rw [if_neg c4] at H
   exact absurd H (by simp)
 ·replace c3 := Bool.eq_false_iff.mpr c3
  subst c3
  have H1 : (some (⟨#[]⟩ : ByteArray)) = some r := by rw [if_neg (show ¬ (false = true) by decide)] at H; exact H
  clear H
  have H := H1
  clear H1
  obtain rfl := Option.some.inj H
  go_enter Tryd.func18, Tryd.ntmps18
  go_wp2_with (first | ((with_reducible refine gate_dst (N := 1) rfl ?_); refine bx_ 1 #[.int .i64 a0_0, .slice A0_1 l0_1.length c0_1, .string a0_2, .string a0_3, .string a0_4, .string a0_5, .int .i64 a0_6] 38 ?_; intro gb1001 hg w61 hbox hb; have BK1001 := am_ (hbox); have GW1001 := am_ (gs_ hg : w.heap.size ≤ gb1001); replace HB := am_ (below_step bl_ hb); have GE1001 := GW1001; clear hb hbox hg; have hcz62_0 : w61.cell? ⟨gb1001, 0, none⟩ = some (.int .i64 a0_0) := (blk_cell BK1001.out 0).trans rfl; have hcz62_1 : w61.cell? ⟨gb1001, 1, none⟩ = some (.slice A0_1 l0_1.length c0_1) := (blk_cell BK1001.out 1).trans rfl; have hcz62_2 : w61.cell? ⟨gb1001, 2, none⟩ = some (.string a0_2) := (blk_cell BK1001.out 2).trans rfl; have hcz62_3 : w61.cell? ⟨gb1001, 3, none⟩ = some (.string a0_3) := (blk_cell BK1001.out 3).trans rfl; have hcz62_4 : w61.cell? ⟨gb1001, 4, none⟩ = some (.string a0_4) := (blk_cell BK1001.out 4).trans rfl; have hcz62_5 : w61.cell? ⟨gb1001, 5, none⟩ = some (.string a0_5) := (blk_cell BK1001.out 5).trans rfl; have hcz62_6 : w61.cell? ⟨gb1001, 6, none⟩ = some (.int .i64 a0_6) := (blk_cell BK1001.out 6).trans rfl; have hfz62_0 := bf_ BK1001 0; have hfz62_1 := bf_ BK1001 1; have hfz62_2 := bf_ BK1001 2; have hfz62_3 := bf_ BK1001 3; have hfz62_4 := bf_ BK1001 4; have hfz62_5 := bf_ BK1001 5; have hfz62_6 := bf_ BK1001 6) | ((with_reducible refine gate_callee (f := 35) rfl ?_); refine goesL_ (some 5) rfl rfl Tryd.func35 (by kernel_rfl) rfl #[.agg #[.int .i64 a0_0, .slice A0_1 l0_1.length c0_1, .string a0_2, .string a0_3, .string a0_4, .string a0_5, .int .i64 a0_6]] rfl ag_ ?_; (with_reducible refine (impl_GoodRelabel.calls k a0_0 _ _ l0_1 a0_2 a0_3 a0_4 a0_5 a0_6 false _ ?side1 ?side2 A2.out).mono ?_); (case side1 => exact cc_ (Kd.C_below HR0_1.out HB.out)); (case side2 => exact HC0_1.out); rintro e w63 ⟨rfl, hb⟩; refine ⟨_, rfl, ?_⟩; replace BK1001 := am_ (blk_below (g := gb1001) (vk_ BK1001) hb); replace HB := am_ (below_step bg_ hb); (try clear hb); (try clear hb2); (try clear hk); (try clear hi)))
  go_ret
  exact ⟨rf_, bg_⟩
/-! ### laws_eqStringS: function 38 -/
def laws_eqStringS.l0 : Nat → List ByteArray → List ByteArray → Int → Option (Bool)
 | 0, _, _, _ => none
 | k + 1, x0, x1, x5 => if x5 < (x0.length : Int) then (if 0 ≤ x5 then (if x5 < (x1.length : Int) then (if (rdOf ByteArray.empty x0 x5).toList = (rdOf ByteArray.empty x1 x5).toList then (laws_eqStringS.l0 k x0 x1 (wrap64 (x5 + 1))) else (some false)) else (none)) else (none)) else (some true)
def laws_eqStringS.f (k : Nat) (l0 : List ByteArray) (l1 : List ByteArray) : Option (Bool) := if (l0.length : Int) = (l1.length : Int) then (laws_eqStringS.l0 k l0 l1 0) else (some false)
theorem laws_eqStringS.mono_l : ∀ k, (∀ y0 y1 y2, LeO (laws_eqStringS.l0 k y0 y1 y2) (laws_eqStringS.l0 (k + 1) y0 y1 y2))
 | 0 => fun _ _ _ r h => by simp [laws_eqStringS.l0] at h
 | k + 1 => by
  have ih0 := laws_eqStringS.mono_l k
  ·intro y0 y1 y2
   unfold laws_eqStringS.l0
   repeat' first
   | with_reducible first | exact ih0 _ _ _ | exact LeO.refl _ | exact LeO.none _ | refine LeO.ite ?_ ?_ | refine LeO.bind ?_ (fun _ => ?_)
   | exact ih0 _ _ _
   | exact LeO.none _
   | refine LeO.ite ?_ ?_
   | refine LeO.bind ?_ (fun _ => ?_)
theorem laws_eqStringS.mono : ∀ a0 a1 k, LeO (laws_eqStringS.f k a0 a1) (laws_eqStringS.f (k + 1) a0 a1) := by
 intro a0 a1 k
 have ih0 := laws_eqStringS.mono_l k
 unfold laws_eqStringS.f
 repeat' first
   | with_reducible first | exact ih0 _ _ _ | exact LeO.refl _ | exact LeO.none _ | refine LeO.ite ?_ ?_ | refine LeO.bind ?_ (fun _ => ?_)
   | exact ih0 _ _ _
   | exact LeO.none _
   | refine LeO.ite ?_ ?_
   | refine LeO.bind ?_ (fun _ => ?_)
set_option maxHeartbeats 8000000 in
set_option maxRecDepth 100000 in
theorem laws_eqStringS.calls (k : Nat) (A0 : Option Addr) (c0 : Nat) (l0 : List ByteArray) (A1 : Option Addr) (c1 : Nat) (l1 : List ByteArray) (r : Bool) (w : World) (hr0 : Kd.C Kd.string w A0 l0.length l0) (hc0 : l0.length ≤ c0) (hr1 : Kd.C Kd.string w A1 l1.length l1) (hc1 : l1.length ≤ c1) (h : laws_eqStringS.f k l0 l1 = some r) :
  Calls Tryd.prog 38 #[.slice A0 l0.length c0, .slice A1 l1.length c1] w fun e w' => e = .returned (.bool r) ∧ Drawn0 w w' := by
 have HR0 := am_ hr0
 have HC0 := am_ hc0
 clear hr0 hc0
 have HR1 := am_ hr1
 have HC1 := am_ hc1
 clear hr1 hc1
 have H : (if (l0.length : Int) = (l1.length : Int) then (laws_eqStringS.l0 k l0 l1 0) else (some false)) = some r := h
 clear h
 by_cases c3 : (l0.length : Int) = (l1.length : Int)
 ·rw [if_pos c3] at H
  have c3b0 : ((l0.length : Int) == (l1.length : Int)) = true := beq_iff_eq.mpr c3
  have c3b1 : ((l0.length : Int) != (l1.length : Int)) = false := bne_eq_false_iff_eq.mpr c3
  have c3b2 : (l0.length == l1.length) = true := by first | simpa using c3 | (simp at c3 ⊢; omega)
  clear c3
  have H' := am_ H
  clear H
  go_enter Tryd.func38, Tryd.ntmps38
  go_wp2
  repeat (go_quiet (fail); try go_wp2)
  go_loopg [5] k (fun kq v5 w' => ∃ (x5_1 : Int), v5 = .int .i64 x5_1 ∧ Aside0 (laws_eqStringS.l0 kq l0 l1 x5_1 = some r) ∧ Aside0 (kq ≤ k) ∧ Drawn0 w w')
  case atStart => exact ⟨(0), rs_, H', ⟨Nat.le_refl _⟩, by repeat (first | exact Drawn0.refl _ | apply Drawn0.step)⟩
  case round =>
   clear H'
   try clear c1
   try clear p2
   try clear c3
   try clear c3b0
   try clear c3b1
   try clear c3b2
   obtain ⟨x5_1, rfl, HA, HK1, ⟨m1, rfl⟩⟩ := hrel
   cases gk with
   | zero => exact absurd HA.out (by simp [laws_eqStringS.l0])
   | succ k1 =>
    have H := HA.out
    clear HA
    simp only [laws_eqStringS.l0] at H
    by_cases c4 : x5_1 < (l0.length : Int)
    ·rw [if_pos c4] at H
     have c4b0 : decide (x5_1 < (l0.length : Int)) = true := decide_eq_true c4
     clear c4
     by_cases c5 : 0 ≤ x5_1
     ·rw [if_pos c5] at H
      have c5b0 : decide (0 ≤ x5_1) = true := decide_eq_true c5
      clear c5
      by_cases c6 : x5_1 < (l1.length : Int)
      ·rw [if_pos c6] at H
       have c6b0 : decide (x5_1 < (l1.length : Int)) = true := decide_eq_true c6
       clear c6
       by_cases c7 : (rdOf ByteArray.empty l0 x5_1).toList = (rdOf ByteArray.empty l1 x5_1).toList
       ·rw [if_pos c7] at H
        have c7b0 : ((rdOf ByteArray.empty l0 x5_1).toList == (rdOf ByteArray.empty l1 x5_1).toList) = true := beq_iff_eq.mpr c7
        have c7b1 : ((rdOf ByteArray.empty l0 x5_1).toList != (rdOf ByteArray.empty l1 x5_1).toList) = false := bne_eq_false_iff_eq.mpr c7
        clear c7
        have H' := am_ H
        clear H
        have p1001 : 0 ≤ (x5_1 : Int) := od_
        have q1001 : x5_1 < (l0.length : Int) := od_
        obtain ⟨ad1001, e1001, hx1001_0⟩ := Kd.at_string HR0.out x5_1 p1001 q1001
        cases e1001
        replace p1001 := eq_true p1001
        replace q1001 := eq_true q1001
        have p1002 : 0 ≤ (x5_1 : Int) := od_
        have q1002 : x5_1 < (l1.length : Int) := od_
        obtain ⟨ad1002, e1002, hx1002_0⟩ := Kd.at_string HR1.out x5_1 p1002 q1002
        cases e1002
        replace p1002 := eq_true p1002
        replace q1002 := eq_true q1002
        go_wp2
        repeat (go_quiet (fail); try go_wp2)
        go_roundg k1
        case measure => have := HK1.out; omega
        case rel => exact ⟨(wrap64 (x5_1 + 1)), rs_, H', ⟨by have := HK1.out; omega⟩, by repeat (first | exact Drawn0.refl _ | apply Drawn0.step)⟩
       ·rw [if_neg c7] at H
        have c7b0 : ((rdOf ByteArray.empty l0 x5_1).toList == (rdOf ByteArray.empty l1 x5_1).toList) = false := beq_eq_false_iff_ne.mpr c7
        have c7b1 : ((rdOf ByteArray.empty l0 x5_1).toList != (rdOf ByteArray.empty l1 x5_1).toList) = true := bne_iff_ne.mpr c7
        obtain rfl := Option.some.inj H
        have p1001 : 0 ≤ (x5_1 : Int) := od_
        have q1001 : x5_1 < (l0.length : Int) := od_
        obtain ⟨ad1001, e1001, hx1001_0⟩ := Kd.at_string HR0.out x5_1 p1001 q1001
        cases e1001
        replace p1001 := eq_true p1001
        replace q1001 := eq_true q1001
        have p1002 : 0 ≤ (x5_1 : Int) := od_
        have q1002 : x5_1 < (l1.length : Int) := od_
        obtain ⟨ad1002, e1002, hx1002_0⟩ := Kd.at_string HR1.out x5_1 p1002 q1002
        cases e1002
        replace p1002 := eq_true p1002
        replace q1002 := eq_true q1002
        go_wp2
        repeat (go_quiet (fail); try go_wp2)
        go_ret
        exact ⟨by first | rfl | (simp; done) | (simp [*]; done), by repeat (first | exact Drawn0.refl _ | apply Drawn0.step)⟩
      ·rw [if_neg c6] at H
       exact absurd H (by simp)
     ·rw [if_neg c5] at H
      exact absurd H (by simp)
    ·rw [if_neg c4] at H
     have c4b0 : decide (x5_1 < (l0.length : Int)) = false := decide_eq_false c4
     clear c4
     obtain rfl := Option.some.inj H
     go_wp2
     repeat (go_quiet (fail); try go_wp2)
     go_ret
     exact ⟨by first | rfl | (simp; done) | (simp [*]; done), by repeat (first | exact Drawn0.refl _ | apply Drawn0.step)⟩
 ·rw [if_neg c3] at H
  have c3b0 : ((l0.length : Int) == (l1.length : Int)) = false := beq_eq_false_iff_ne.mpr c3
  have c3b1 : ((l0.length : Int) != (l1.length : Int)) = true := bne_iff_ne.mpr c3
  have c3b2 : (l0.length == l1.length) = false := by first | simpa using c3 | (simp at c3 ⊢; omega)
  obtain rfl := Option.some.inj H
  go_enter Tryd.func38, Tryd.ntmps38
  go_wp2
  repeat (go_quiet (fail); try go_wp2)
  go_ret
  exact ⟨by first | rfl | (simp; done) | (simp [*]; done), by repeat (first | exact Drawn0.refl _ | apply Drawn0.step)⟩

/-! ### laws_eqRelabel: function 19 -/
def laws_eqRelabel.f (k : Nat) (a0_0 : Int) (l0_1 : List ByteArray) (a0_2 : ByteArray) (a0_3 : ByteArray) (a0_4 : ByteArray) (a0_5 : ByteArray) (a0_6 : Int) (a1_0 : Int) (l1_1 : List ByteArray) (a1_2 : ByteArray) (a1_3 : ByteArray) (a1_4 : ByteArray) (a1_5 : ByteArray) (a1_6 : Int) : Option (Bool) := if a0_0 = a1_0 then ((laws_eqStringS.f k l0_1 l1_1).bind fun t1003 => (if t1003 = true then (if a0_2.toList = a1_2.toList then (if a0_3.toList = a1_3.toList then (if a0_4.toList = a1_4.toList then (if a0_5.toList = a1_5.toList then (if a0_6 = a1_6 then (some true) else (some false)) else (some false)) else (some false)) else (some false)) else (some false)) else (some false))) else (some false)
theorem laws_eqRelabel.mono : ∀ a0 a1 a2 a3 a4 a5 a6 a7 a8 a9 a10 a11 a12 a13 k, LeO (laws_eqRelabel.f k a0 a1 a2 a3 a4 a5 a6 a7 a8 a9 a10 a11 a12 a13) (laws_eqRelabel.f (k + 1) a0 a1 a2 a3 a4 a5 a6 a7 a8 a9 a10 a11 a12 a13) := by
 intro a0 a1 a2 a3 a4 a5 a6 a7 a8 a9 a10 a11 a12 a13 k
 unfold laws_eqRelabel.f
 repeat' first
   | with_reducible first | exact laws_eqStringS.mono _ _ _ | exact LeO.refl _ | exact LeO.none _ | refine LeO.ite ?_ ?_ | refine LeO.bind ?_ (fun _ => ?_)
   | exact laws_eqStringS.mono _ _ _
   | exact LeO.none _
   | refine LeO.ite ?_ ?_
   | refine LeO.bind ?_ (fun _ => ?_)
set_option maxHeartbeats 8000000 in
set_option maxRecDepth 100000 in
theorem laws_eqRelabel.calls (k : Nat) (a0_0 : Int) (A0_1 : Option Addr) (c0_1 : Nat) (l0_1 : List ByteArray) (a0_2 : ByteArray) (a0_3 : ByteArray) (a0_4 : ByteArray) (a0_5 : ByteArray) (a0_6 : Int) (a1_0 : Int) (A1_1 : Option Addr) (c1_1 : Nat) (l1_1 : List ByteArray) (a1_2 : ByteArray) (a1_3 : ByteArray) (a1_4 : ByteArray) (a1_5 : ByteArray) (a1_6 : Int) (r : Bool) (w : World) (hr0_1 : Kd.C Kd.string w A0_1 l0_1.length l0_1) (hc0_1 : l0_1.length ≤ c0_1) (hr1_1 : Kd.C Kd.string w A1_1 l1_1.length l1_1) (hc1_1 : l1_1.length ≤ c1_1) (h : laws_eqRelabel.f k a0_0 l0_1 a0_2 a0_3 a0_4 a0_5 a0_6 a1_0 l1_1 a1_2 a1_3 a1_4 a1_5 a1_6 = some r) :
  Calls Tryd.prog 19 #[.agg #[.int .i64 a0_0, .slice A0_1 l0_1.length c0_1, .string a0_2, .string a0_3, .string a0_4, .string a0_5, .int .i64 a0_6], .agg #[.int .i64 a1_0, .slice A1_1 l1_1.length c1_1, .string a1_2, .string a1_3, .string a1_4, .string a1_5, .int .i64 a1_6]] w fun e w' => e = .returned (.bool r) ∧ Below w.heap.size w w' := by
 have hu38 := Tryd.underlying38
 have HR0_1 := am_ hr0_1
 have HC0_1 := am_ hc0_1
 clear hr0_1 hc0_1
 have HR1_1 := am_ hr1_1
 have HC1_1 := am_ hc1_1
 clear hr1_1 hc1_1
 have HB := am_ (Below.refl w.heap.size w)
 have H : (if a0_0 = a1_0 then ((laws_eqStringS.f k l0_1 l1_1).bind fun t1003 => (if t1003 = true then (if a0_2.toList = a1_2.toList then (if a0_3.toList = a1_3.toList then (if a0_4.toList = a1_4.toList then (if a0_5.toList = a1_5.toList then (if a0_6 = a1_6 then (some true) else (some false)) else (some false)) else (some false)) else (some false)) else (some false)) else (some false))) else (some false)) = some r := h
 clear h
 by_cases c3 : a0_0 = a1_0
 ·rw [if_pos c3] at H
  have c3b0 : (a0_0 == a1_0) = true := beq_iff_eq.mpr c3
  have c3b1 : (a0_0 != a1_0) = false := bne_eq_false_iff_eq.mpr c3
  clear c3
  replace H := Option.bind_eq_some_iff.mp H
  obtain ⟨t1003, A40, H⟩ := H
  replace H : (if t1003 = true then (if a0_2.toList = a1_2.toList then (if a0_3.toList = a1_3.toList then (if a0_4.toList = a1_4.toList then (if a0_5.toList = a1_5.toList then (if a0_6 = a1_6 then (some true) else (some false)) else (some false)) else (some false)) else (some false)) else (some false)) else (some false)) = some r := H
  have A4 := am_ A40
  clear A40
  by_cases c5 : t1003 = true
  ·subst c5
   have H1 : (if a0_2.toList = a1_2.toList then (if a0_3.toList = a1_3.toList then (if a0_4.toList = a1_4.toList then (if a0_5.toList = a1_5.toList then (if a0_6 = a1_6 then (some true) else (some false)) else (some false)) else (some false)) else (some false)) else (some false)) = some r := by rw [if_pos rfl] at H; exact H
   clear H
   have H := H1
   clear H1
   by_cases c6 : a0_2.toList = a1_2.toList
   ·rw [if_pos c6] at H
    have c6b0 : (a0_2.toList == a1_2.toList) = true := beq_iff_eq.mpr c6
    have c6b1 : (a0_2.toList != a1_2.toList) = false := bne_eq_false_iff_eq.mpr c6
    clear c6
    by_cases c7 : a0_3.toList = a1_3.toList
    ·rw [if_pos c7] at H
     have c7b0 : (a0_3.toList == a1_3.toList) = true := beq_iff_eq.mpr c7
     have c7b1 : (a0_3.toList != a1_3.toList) = false := bne_eq_false_iff_eq.mpr c7
     clear c7
     by_cases c8 : a0_4.toList = a1_4.toList
     ·rw [if_pos c8] at H
      have c8b0 : (a0_4.toList == a1_4.toList) = true := beq_iff_eq.mpr c8
      have c8b1 : (a0_4.toList != a1_4.toList) = false := bne_eq_false_iff_eq.mpr c8
      clear c8
      by_cases c9 : a0_5.toList = a1_5.toList
      ·rw [if_pos c9] at H
       have c9b0 : (a0_5.toList == a1_5.toList) = true := beq_iff_eq.mpr c9
       have c9b1 : (a0_5.toList != a1_5.toList) = false := bne_eq_false_iff_eq.mpr c9
       clear c9
       by_cases c10 : a0_6 = a1_6
       ·rw [if_pos c10] at H
        have c10b0 : (a0_6 == a1_6) = true := beq_iff_eq.mpr c10
        have c10b1 : (a0_6 != a1_6) = false := bne_eq_false_iff_eq.mpr c10
        clear c10
        obtain rfl := Option.some.inj H
        go_enter Tryd.func19, Tryd.ntmps19
        go_wp2_with (first | ((with_reducible refine gate_dst (N := 2) rfl ?_); refine bx_ 2 #[.int .i64 a0_0, .slice A0_1 l0_1.length c0_1, .string a0_2, .string a0_3, .string a0_4, .string a0_5, .int .i64 a0_6] 38 ?_; intro gb1001 hg w11 hbox hb; have BK1001 := am_ (hbox); have GW1001 := am_ (gs_ hg : w.heap.size ≤ gb1001); replace HB := am_ (below_step bl_ hb); have GE1001 := GW1001; clear hb hbox hg) | ((with_reducible refine gate_dst (N := 3) rfl ?_); refine bx_ 3 #[.int .i64 a1_0, .slice A1_1 l1_1.length c1_1, .string a1_2, .string a1_3, .string a1_4, .string a1_5, .int .i64 a1_6] 38 ?_; intro gb1002 hg w12 hbox hb; have BK1002 := am_ (hbox); have GW1002 := am_ (gg_ hg : w.heap.size ≤ gb1002); have NB1001_1002 := am_ ((by rw [hg]; exact Nat.ne_of_lt (blk_lt (g := gb1001) (o := .cells #[.int .i64 a0_0, .slice A0_1 l0_1.length c0_1, .string a0_2, .string a0_3, .string a0_4, .string a0_5, .int .i64 a0_6] 38 (0, 0)) (vk_ BK1001)) : gb1001 ≠ gb1002)); have NB1002_1001 := am_ ((by rw [hg]; exact Nat.ne_of_gt (blk_lt (g := gb1001) (o := .cells #[.int .i64 a0_0, .slice A0_1 l0_1.length c0_1, .string a0_2, .string a0_3, .string a0_4, .string a0_5, .int .i64 a0_6] 38 (0, 0)) (vk_ BK1001)) : gb1002 ≠ gb1001)); replace BK1001 := am_ (blk_below (g := gb1001) (vk_ BK1001) hb); replace HB := am_ (below_step bg_ hb); have GE1002 := GW1002; clear hb hbox hg; have hnb13 := NB1001_1002.out; have hnc13 := NB1002_1001.out; have hcz14_0 : w12.cell? ⟨gb1001, 0, none⟩ = some (.int .i64 a0_0) := (blk_cell BK1001.out 0).trans rfl; have hcz14_1 : w12.cell? ⟨gb1001, 1, none⟩ = some (.slice A0_1 l0_1.length c0_1) := (blk_cell BK1001.out 1).trans rfl; have hcz14_2 : w12.cell? ⟨gb1001, 2, none⟩ = some (.string a0_2) := (blk_cell BK1001.out 2).trans rfl; have hcz14_3 : w12.cell? ⟨gb1001, 3, none⟩ = some (.string a0_3) := (blk_cell BK1001.out 3).trans rfl; have hcz14_4 : w12.cell? ⟨gb1001, 4, none⟩ = some (.string a0_4) := (blk_cell BK1001.out 4).trans rfl; have hcz14_5 : w12.cell? ⟨gb1001, 5, none⟩ = some (.string a0_5) := (blk_cell BK1001.out 5).trans rfl; have hcz14_6 : w12.cell? ⟨gb1001, 6, none⟩ = some (.int .i64 a0_6) := (blk_cell BK1001.out 6).trans rfl; have hfz14_0 := bf_ BK1001 0; have hfz14_1 := bf_ BK1001 1; have hfz14_2 := bf_ BK1001 2; have hfz14_3 := bf_ BK1001 3; have hfz14_4 := bf_ BK1001 4; have hfz14_5 := bf_ BK1001 5; have hfz14_6 := bf_ BK1001 6; have hcz15_0 : w12.cell? ⟨gb1002, 0, none⟩ = some (.int .i64 a1_0) := (blk_cell BK1002.out 0).trans rfl; have hcz15_1 : w12.cell? ⟨gb1002, 1, none⟩ = some (.slice A1_1 l1_1.length c1_1) := (blk_cell BK1002.out 1).trans rfl; have hcz15_2 : w12.cell? ⟨gb1002, 2, none⟩ = some (.string a1_2) := (blk_cell BK1002.out 2).trans rfl; have hcz15_3 : w12.cell? ⟨gb1002, 3, none⟩ = some (.string a1_3) := (blk_cell BK1002.out 3).trans rfl; have hcz15_4 : w12.cell? ⟨gb1002, 4, none⟩ = some (.string a1_4) := (blk_cell BK1002.out 4).trans rfl; have hcz15_5 : w12.cell? ⟨gb1002, 5, none⟩ = some (.string a1_5) := (blk_cell BK1002.out 5).trans rfl; have hcz15_6 : w12.cell? ⟨gb1002, 6, none⟩ = some (.int .i64 a1_6) := (blk_cell BK1002.out 6).trans rfl; have hfz15_0 := bf_ BK1002 0; have hfz15_1 := bf_ BK1002 1; have hfz15_2 := bf_ BK1002 2; have hfz15_3 := bf_ BK1002 3; have hfz15_4 := bf_ BK1002 4; have hfz15_5 := bf_ BK1002 5; have hfz15_6 := bf_ BK1002 6) | ((with_reducible refine gate_callee (f := 38) rfl ?_); refine goesL_ (some 14) rfl rfl Tryd.func38 (by kernel_rfl) rfl #[.slice A0_1 l0_1.length c0_1, .slice A1_1 l1_1.length c1_1] rfl ag_ ?_; (with_reducible refine (laws_eqStringS.calls k _ _ l0_1 _ _ l1_1 true _ ?side1 ?side2 ?side3 ?side4 A4.out).mono ?_); (case side1 => exact cc_ (Kd.C_below HR0_1.out HB.out)); (case side2 => exact HC0_1.out); (case side3 => exact cc_ (Kd.C_below HR1_1.out HB.out)); (case side4 => exact HC1_1.out); rintro e w' ⟨rfl, ⟨nd, rfl⟩⟩; refine ⟨_, rfl, ?_⟩))
        go_ret
        exact ⟨rf_, bg_⟩
       ·rw [if_neg c10] at H
        have c10b0 : (a0_6 == a1_6) = false := beq_eq_false_iff_ne.mpr c10
        have c10b1 : (a0_6 != a1_6) = true := bne_iff_ne.mpr c10
        obtain rfl := Option.some.inj H
        go_enter Tryd.func19, Tryd.ntmps19
        go_wp2_with (first | ((with_reducible refine gate_dst (N := 2) rfl ?_); refine bx_ 2 #[.int .i64 a0_0, .slice A0_1 l0_1.length c0_1, .string a0_2, .string a0_3, .string a0_4, .string a0_5, .int .i64 a0_6] 38 ?_; intro gb1001 hg w16 hbox hb; have BK1001 := am_ (hbox); have GW1001 := am_ (gs_ hg : w.heap.size ≤ gb1001); replace HB := am_ (below_step bl_ hb); have GE1001 := GW1001; clear hb hbox hg) | ((with_reducible refine gate_dst (N := 3) rfl ?_); refine bx_ 3 #[.int .i64 a1_0, .slice A1_1 l1_1.length c1_1, .string a1_2, .string a1_3, .string a1_4, .string a1_5, .int .i64 a1_6] 38 ?_; intro gb1002 hg w17 hbox hb; have BK1002 := am_ (hbox); have GW1002 := am_ (gg_ hg : w.heap.size ≤ gb1002); have NB1001_1002 := am_ ((by rw [hg]; exact Nat.ne_of_lt (blk_lt (g := gb1001) (o := .cells #[.int .i64 a0_0, .slice A0_1 l0_1.length c0_1, .string a0_2, .string a0_3, .string a0_4, .string a0_5, .int .i64 a0_6] 38 (0, 0)) (vk_ BK1001)) : gb1001 ≠ gb1002)); have NB1002_1001 := am_ ((by rw [hg]; exact Nat.ne_of_gt (blk_lt (g := gb1001) (o := .cells #[.int .i64 a0_0, .slice A0_1 l0_1.length c0_1, .string a0_2, .string a0_3, .string a0_4, .string a0_5, .int .i64 a0_6] 38 (0, 0)) (vk_ BK1001)) : gb1002 ≠ gb1001)); replace BK1001 := am_ (blk_below (g := gb1001) (vk_ BK1001) hb); replace HB := am_ (below_step bg_ hb); have GE1002 := GW1002; clear hb hbox hg; have hnb18 := NB1001_1002.out; have hnc18 := NB1002_1001.out; have hcz19_0 : w17.cell? ⟨gb1001, 0, none⟩ = some (.int .i64 a0_0) := (blk_cell BK1001.out 0).trans rfl; have hcz19_1 : w17.cell? ⟨gb1001, 1, none⟩ = some (.slice A0_1 l0_1.length c0_1) := (blk_cell BK1001.out 1).trans rfl; have hcz19_2 : w17.cell? ⟨gb1001, 2, none⟩ = some (.string a0_2) := (blk_cell BK1001.out 2).trans rfl; have hcz19_3 : w17.cell? ⟨gb1001, 3, none⟩ = some (.string a0_3) := (blk_cell BK1001.out 3).trans rfl; have hcz19_4 : w17.cell? ⟨gb1001, 4, none⟩ = some (.string a0_4) := (blk_cell BK1001.out 4).trans rfl; have hcz19_5 : w17.cell? ⟨gb1001, 5, none⟩ = some (.string a0_5) := (blk_cell BK1001.out 5).trans rfl; have hcz19_6 : w17.cell? ⟨gb1001, 6, none⟩ = some (.int .i64 a0_6) := (blk_cell BK1001.out 6).trans rfl; have hfz19_0 := bf_ BK1001 0; have hfz19_1 := bf_ BK1001 1; have hfz19_2 := bf_ BK1001 2; have hfz19_3 := bf_ BK1001 3; have hfz19_4 := bf_ BK1001 4; have hfz19_5 := bf_ BK1001 5; have hfz19_6 := bf_ BK1001 6; have hcz20_0 : w17.cell? ⟨gb1002, 0, none⟩ = some (.int .i64 a1_0) := (blk_cell BK1002.out 0).trans rfl; have hcz20_1 : w17.cell? ⟨gb1002, 1, none⟩ = some (.slice A1_1 l1_1.length c1_1) := (blk_cell BK1002.out 1).trans rfl; have hcz20_2 : w17.cell? ⟨gb1002, 2, none⟩ = some (.string a1_2) := (blk_cell BK1002.out 2).trans rfl; have hcz20_3 : w17.cell? ⟨gb1002, 3, none⟩ = some (.string a1_3) := (blk_cell BK1002.out 3).trans rfl; have hcz20_4 : w17.cell? ⟨gb1002, 4, none⟩ = some (.string a1_4) := (blk_cell BK1002.out 4).trans rfl; have hcz20_5 : w17.cell? ⟨gb1002, 5, none⟩ = some (.string a1_5) := (blk_cell BK1002.out 5).trans rfl; have hcz20_6 : w17.cell? ⟨gb1002, 6, none⟩ = some (.int .i64 a1_6) := (blk_cell BK1002.out 6).trans rfl; have hfz20_0 := bf_ BK1002 0; have hfz20_1 := bf_ BK1002 1; have hfz20_2 := bf_ BK1002 2; have hfz20_3 := bf_ BK1002 3; have hfz20_4 := bf_ BK1002 4; have hfz20_5 := bf_ BK1002 5; have hfz20_6 := bf_ BK1002 6) | ((with_reducible refine gate_callee (f := 38) rfl ?_); refine goesL_ (some 14) rfl rfl Tryd.func38 (by kernel_rfl) rfl #[.slice A0_1 l0_1.length c0_1, .slice A1_1 l1_1.length c1_1] rfl ag_ ?_; (with_reducible refine (laws_eqStringS.calls k _ _ l0_1 _ _ l1_1 true _ ?side1 ?side2 ?side3 ?side4 A4.out).mono ?_); (case side1 => exact cc_ (Kd.C_below HR0_1.out HB.out)); (case side2 => exact HC0_1.out); (case side3 => exact cc_ (Kd.C_below HR1_1.out HB.out)); (case side4 => exact HC1_1.out); rintro e w' ⟨rfl, ⟨nd, rfl⟩⟩; refine ⟨_, rfl, ?_⟩))
        go_ret
        exact ⟨rf_, bg_⟩
      ·rw [if_neg c9] at H
       have c9b0 : (a0_5.toList == a1_5.toList) = false := beq_eq_false_iff_ne.mpr c9
       have c9b1 : (a0_5.toList != a1_5.toList) = true := bne_iff_ne.mpr c9
       obtain rfl := Option.some.inj H
       go_enter Tryd.func19, Tryd.ntmps19
       go_wp2_with (first | ((with_reducible refine gate_dst (N := 2) rfl ?_); refine bx_ 2 #[.int .i64 a0_0, .slice A0_1 l0_1.length c0_1, .string a0_2, .string a0_3, .string a0_4, .string a0_5, .int .i64 a0_6] 38 ?_; intro gb1001 hg w21 hbox hb; have BK1001 := am_ (hbox); have GW1001 := am_ (gs_ hg : w.heap.size ≤ gb1001); replace HB := am_ (below_step bl_ hb); have GE1001 := GW1001; clear hb hbox hg) | ((with_reducible refine gate_dst (N := 3) rfl ?_); refine bx_ 3 #[.int .i64 a1_0, .slice A1_1 l1_1.length c1_1, .string a1_2, .string a1_3, .string a1_4, .string a1_5, .int .i64 a1_6] 38 ?_; intro gb1002 hg w22 hbox hb; have BK1002 := am_ (hbox); have GW1002 := am_ (gg_ hg : w.heap.size ≤ gb1002); have NB1001_1002 := am_ ((by rw [hg]; exact Nat.ne_of_lt (blk_lt (g := gb1001) (o := .cells #[.int .i64 a0_0, .slice A0_1 l0_1.length c0_1, .string a0_2, .string a0_3, .string a0_4, .string a0_5, .int .i64 a0_6] 38 (0, 0)) (vk_ BK1001)) : gb1001 ≠ gb1002)); have NB1002_1001 := am_ ((by rw [hg]; exact Nat.ne_of_gt (blk_lt (g := gb1001) (o := .cells #[.int .i64 a0_0, .slice A0_1 l0_1.length c0_1, .string a0_2, .string a0_3, .string a0_4, .string a0_5, .int .i64 a0_6] 38 (0, 0)) (vk_ BK1001)) : gb1002 ≠ gb1001)); replace BK1001 := am_ (blk_below (g := gb1001) (vk_ BK1001) hb); replace HB := am_ (below_step bg_ hb); have GE1002 := GW1002; clear hb hbox hg; have hnb23 := NB1001_1002.out; have hnc23 := NB1002_1001.out; have hcz24_0 : w22.cell? ⟨gb1001, 0, none⟩ = some (.int .i64 a0_0) := (blk_cell BK1001.out 0).trans rfl; have hcz24_1 : w22.cell? ⟨gb1001, 1, none⟩ = some (.slice A0_1 l0_1.length c0_1) := (blk_cell BK1001.out 1).trans rfl; have hcz24_2 : w22.cell? ⟨gb1001, 2, none⟩ = some (.string a0_2) := (blk_cell BK1001.out 2).trans rfl; have hcz24_3 : w22.cell? ⟨gb1001, 3, none⟩ = some (.string a0_3) := (blk_cell BK1001.out 3).trans rfl; have hcz24_4 : w22.cell? ⟨gb1001, 4, none⟩ = some (.string a0_4) := (blk_cell BK1001.out 4).trans rfl; have hcz24_5 : w22.cell? ⟨gb1001, 5, none⟩ = some (.string a0_5) := (blk_cell BK1001.out 5).trans rfl; have hcz24_6 : w22.cell? ⟨gb1001, 6, none⟩ = some (.int .i64 a0_6) := (blk_cell BK1001.out 6).trans rfl; have hfz24_0 := bf_ BK1001 0; have hfz24_1 := bf_ BK1001 1; have hfz24_2 := bf_ BK1001 2; have hfz24_3 := bf_ BK1001 3; have hfz24_4 := bf_ BK1001 4; have hfz24_5 := bf_ BK1001 5; have hfz24_6 := bf_ BK1001 6; have hcz25_0 : w22.cell? ⟨gb1002, 0, none⟩ = some (.int .i64 a1_0) := (blk_cell BK1002.out 0).trans rfl; have hcz25_1 : w22.cell? ⟨gb1002, 1, none⟩ = some (.slice A1_1 l1_1.length c1_1) := (blk_cell BK1002.out 1).trans rfl; have hcz25_2 : w22.cell? ⟨gb1002, 2, none⟩ = some (.string a1_2) := (blk_cell BK1002.out 2).trans rfl; have hcz25_3 : w22.cell? ⟨gb1002, 3, none⟩ = some (.string a1_3) := (blk_cell BK1002.out 3).trans rfl; have hcz25_4 : w22.cell? ⟨gb1002, 4, none⟩ = some (.string a1_4) := (blk_cell BK1002.out 4).trans rfl; have hcz25_5 : w22.cell? ⟨gb1002, 5, none⟩ = some (.string a1_5) := (blk_cell BK1002.out 5).trans rfl; have hcz25_6 : w22.cell? ⟨gb1002, 6, none⟩ = some (.int .i64 a1_6) := (blk_cell BK1002.out 6).trans rfl; have hfz25_0 := bf_ BK1002 0; have hfz25_1 := bf_ BK1002 1; have hfz25_2 := bf_ BK1002 2; have hfz25_3 := bf_ BK1002 3; have hfz25_4 := bf_ BK1002 4; have hfz25_5 := bf_ BK1002 5; have hfz25_6 := bf_ BK1002 6) | ((with_reducible refine gate_callee (f := 38) rfl ?_); refine goesL_ (some 14) rfl rfl Tryd.func38 (by kernel_rfl) rfl #[.slice A0_1 l0_1.length c0_1, .slice A1_1 l1_1.length c1_1] rfl ag_ ?_; (with_reducible refine (laws_eqStringS.calls k _ _ l0_1 _ _ l1_1 true _ ?side1 ?side2 ?side3 ?side4 A4.out).mono ?_); (case side1 => exact cc_ (Kd.C_below HR0_1.out HB.out)); (case side2 => exact HC0_1.out); (case side3 => exact cc_ (Kd.C_below HR1_1.out HB.out)); (case side4 => exact HC1_1.out); rintro e w' ⟨rfl, ⟨nd, rfl⟩⟩; refine ⟨_, rfl, ?_⟩))
       go_ret
       exact ⟨rf_, bg_⟩
     ·rw [if_neg c8] at H
      have c8b0 : (a0_4.toList == a1_4.toList) = false := beq_eq_false_iff_ne.mpr c8
      have c8b1 : (a0_4.toList != a1_4.toList) = true := bne_iff_ne.mpr c8
      obtain rfl := Option.some.inj H
      go_enter Tryd.func19, Tryd.ntmps19
      go_wp2_with (first | ((with_reducible refine gate_dst (N := 2) rfl ?_); refine bx_ 2 #[.int .i64 a0_0, .slice A0_1 l0_1.length c0_1, .string a0_2, .string a0_3, .string a0_4, .string a0_5, .int .i64 a0_6] 38 ?_; intro gb1001 hg w26 hbox hb; have BK1001 := am_ (hbox); have GW1001 := am_ (gs_ hg : w.heap.size ≤ gb1001); replace HB := am_ (below_step bl_ hb); have GE1001 := GW1001; clear hb hbox hg) | ((with_reducible refine gate_dst (N := 3) rfl ?_); refine bx_ 3 #[.int .i64 a1_0, .slice A1_1 l1_1.length c1_1, .string a1_2, .string a1_3, .string a1_4, .string a1_5, .int .i64 a1_6] 38 ?_; intro gb1002 hg w27 hbox hb; have BK1002 := am_ (hbox); have GW1002 := am_ (gg_ hg : w.heap.size ≤ gb1002); have NB1001_1002 := am_ ((by rw [hg]; exact Nat.ne_of_lt (blk_lt (g := gb1001) (o := .cells #[.int .i64 a0_0, .slice A0_1 l0_1.length c0_1, .string a0_2, .string a0_3, .string a0_4, .string a0_5, .int .i64 a0_6] 38 (0, 0)) (vk_ BK1001)) : gb1001 ≠ gb1002)); have NB1002_1001 := am_ ((by rw [hg]; exact Nat.ne_of_gt (blk_lt (g := gb1001) (o := .cells #[.int .i64 a0_0, .slice A0_1 l0_1.length c0_1, .string a0_2, .string a0_3, .string a0_4, .string a0_5, .int .i64 a0_6] 38 (0, 0)) (vk_ BK1001)) : gb1002 ≠ gb1001)); replace BK1001 := am_ (blk_below (g := gb1001) (vk_ BK1001) hb); replace HB := am_ (below_step bg_ hb); have GE1002 := GW1002; clear hb hbox hg; have hnb28 := NB1001_1002.out; have hnc28 := NB1002_1001.out; have hcz29_0 : w27.cell? ⟨gb1001, 0, none⟩ = some (.int .i64 a0_0) := (blk_cell BK1001.out 0).trans rfl; have hcz29_1 : w27.cell? ⟨gb1001, 1, none⟩ = some (.slice A0_1 l0_1.length c0_1) := (blk_cell BK1001.out 1).trans rfl; have hcz29_2 : w27.cell? ⟨gb1001, 2, none⟩ = some (.string a0_2) := (blk_cell BK1001.out 2).trans rfl; have hcz29_3 : w27.cell? ⟨gb1001, 3, none⟩ = some (.string a0_3) := (blk_cell BK1001.out 3).trans rfl; have hcz29_4 : w27.cell? ⟨gb1001, 4, none⟩ = some (.string a0_4) := (blk_cell BK1001.out 4).trans rfl; have hcz29_5 : w27.cell? ⟨gb1001, 5, none⟩ = some (.string a0_5) := (blk_cell BK1001.out 5).trans rfl; have hcz29_6 : w27.cell? ⟨gb1001, 6, none⟩ = some (.int .i64 a0_6) := (blk_cell BK1001.out 6).trans rfl; have hfz29_0 := bf_ BK1001 0; have hfz29_1 := bf_ BK1001 1; have hfz29_2 := bf_ BK1001 2; have hfz29_3 := bf_ BK1001 3; have hfz29_4 := bf_ BK1001 4; have hfz29_5 := bf_ BK1001 5; have hfz29_6 := bf_ BK1001 6; have hcz30_0 : w27.cell? ⟨gb1002, 0, none⟩ = some (.int .i64 a1_0) := (blk_cell BK1002.out 0).trans rfl; have hcz30_1 : w27.cell? ⟨gb1002, 1, none⟩ = some (.slice A1_1 l1_1.length c1_1) := (blk_cell BK1002.out 1).trans rfl; have hcz30_2 : w27.cell? ⟨gb1002, 2, none⟩ = some (.string a1_2) := (blk_cell BK1002.out 2).trans rfl; have hcz30_3 : w27.cell? ⟨gb1002, 3, none⟩ = some (.string a1_3) := (blk_cell BK1002.out 3).trans rfl; have hcz30_4 : w27.cell? ⟨gb1002, 4, none⟩ = some (.string a1_4) := (blk_cell BK1002.out 4).trans rfl; have hcz30_5 : w27.cell? ⟨gb1002, 5, none⟩ = some (.string a1_5) := (blk_cell BK1002.out 5).trans rfl; have hcz30_6 : w27.cell? ⟨gb1002, 6, none⟩ = some (.int .i64 a1_6) := (blk_cell BK1002.out 6).trans rfl; have hfz30_0 := bf_ BK1002 0; have hfz30_1 := bf_ BK1002 1; have hfz30_2 := bf_ BK1002 2; have hfz30_3 := bf_ BK1002 3; have hfz30_4 := bf_ BK1002 4; have hfz30_5 := bf_ BK1002 5; have hfz30_6 := bf_ BK1002 6) | ((with_reducible refine gate_callee (f := 38) rfl ?_); refine goesL_ (some 14) rfl rfl Tryd.func38 (by kernel_rfl) rfl #[.slice A0_1 l0_1.length c0_1, .slice A1_1 l1_1.length c1_1] rfl ag_ ?_; (with_reducible refine (laws_eqStringS.calls k _ _ l0_1 _ _ l1_1 true _ ?side1 ?side2 ?side3 ?side4 A4.out).mono ?_); (case side1 => exact cc_ (Kd.C_below HR0_1.out HB.out)); (case side2 => exact HC0_1.out); (case side3 => exact cc_ (Kd.C_below HR1_1.out HB.out)); (case side4 => exact HC1_1.out); rintro e w' ⟨rfl, ⟨nd, rfl⟩⟩; refine ⟨_, rfl, ?_⟩))
      go_ret
      exact ⟨rf_, bg_⟩
    ·rw [if_neg c7] at H
     have c7b0 : (a0_3.toList == a1_3.toList) = false := beq_eq_false_iff_ne.mpr c7
     have c7b1 : (a0_3.toList != a1_3.toList) = true := bne_iff_ne.mpr c7
     obtain rfl := Option.some.inj H
     go_enter Tryd.func19, Tryd.ntmps19
     go_wp2_with (first | ((with_reducible refine gate_dst (N := 2) rfl ?_); refine bx_ 2 #[.int .i64 a0_0, .slice A0_1 l0_1.length c0_1, .string a0_2, .string a0_3, .string a0_4, .string a0_5, .int .i64 a0_6] 38 ?_; intro gb1001 hg w31 hbox hb; have BK1001 := am_ (hbox); have GW1001 := am_ (gs_ hg : w.heap.size ≤ gb1001); replace HB := am_ (below_step bl_ hb); have GE1001 := GW1001; clear hb hbox hg) | ((with_reducible refine gate_dst (N := 3) rfl ?_); refine bx_ 3 #[.int .i64 a1_0, .slice A1_1 l1_1.length c1_1, .string a1_2, .string a1_3, .string a1_4, .string a1_5, .int .i64 a1_6] 38 ?_; intro gb1002 hg w32 hbox hb; have BK1002 := am_ (hbox); have GW1002 := am_ (gg_ hg : w.heap.size ≤ gb1002); have NB1001_1002 := am_ ((by rw [hg]; exact Nat.ne_of_lt (blk_lt (g := gb1001) (o := .cells #[.int .i64 a0_0, .slice A0_1 l0_1.length c0_1, .string a0_2, .string a0_3, .string a0_4, .string a0_5, .int .i64 a0_6] 38 (0, 0)) (vk_ BK1001)) : gb1001 ≠ gb1002)); have NB1002_1001 := am_ ((by rw [hg]; exact Nat.ne_of_gt (blk_lt (g := gb1001) (o := .cells #[.int .i64 a0_0, .slice A0_1 l0_1.length c0_1, .string a0_2, .string a0_3, .string a0_4, .string a0_5, .int .i64 a0_6] 38 (0, 0)) (vk_ BK1001)) : gb1002 ≠ gb1001)); replace BK1001 := am_ (blk_below (g := gb1001) (vk_ BK1001) hb); replace HB := am_ (below_step bg_ hb); have GE1002 := GW1002; clear hb hbox hg; have hnb33 := NB1001_1002.out; have hnc33 := NB1002_1001.out; have hcz34_0 : w32.cell? ⟨gb1001, 0, none⟩ = some (.int .i64 a0_0) := (blk_cell BK1001.out 0).trans rfl; have hcz34_1 : w32.cell? ⟨gb1001, 1, none⟩ = some (.slice A0_1 l0_1.length c0_1) := (blk_cell BK1001.out 1).trans rfl; have hcz34_2 : w32.cell? ⟨gb1001, 2, none⟩ = some (.string a0_2) := (blk_cell BK1001.out 2).trans rfl; have hcz34_3 : w32.cell? ⟨gb1001, 3, none⟩ = some (.string a0_3) := (blk_cell BK1001.out 3).trans rfl; have hcz34_4 : w32.cell? ⟨gb1001, 4, none⟩ = some (.string a0_4) := (blk_cell BK1001.out 4).trans rfl; have hcz34_5 : w32.cell? ⟨gb1001, 5, none⟩ = some (.string a0_5) := (blk_cell BK1001.out 5).trans rfl; have hcz34_6 : w32.cell? ⟨gb1001, 6, none⟩ = some (.int .i64 a0_6) := (blk_cell BK1001.out 6).trans rfl; have hfz34_0 := bf_ BK1001 0; have hfz34_1 := bf_ BK1001 1; have hfz34_2 := bf_ BK1001 2; have hfz34_3 := bf_ BK1001 3; have hfz34_4 := bf_ BK1001 4; have hfz34_5 := bf_ BK1001 5; have hfz34_6 := bf_ BK1001 6; have hcz35_0 : w32.cell? ⟨gb1002, 0, none⟩ = some (.int .i64 a1_0) := (blk_cell BK1002.out 0).trans rfl; have hcz35_1 : w32.cell? ⟨gb1002, 1, none⟩ = some (.slice A1_1 l1_1.length c1_1) := (blk_cell BK1002.out 1).trans rfl; have hcz35_2 : w32.cell? ⟨gb1002, 2, none⟩ = some (.string a1_2) := (blk_cell BK1002.out 2).trans rfl; have hcz35_3 : w32.cell? ⟨gb1002, 3, none⟩ = some (.string a1_3) := (blk_cell BK1002.out 3).trans rfl; have hcz35_4 : w32.cell? ⟨gb1002, 4, none⟩ = some (.string a1_4) := (blk_cell BK1002.out 4).trans rfl; have hcz35_5 : w32.cell? ⟨gb1002, 5, none⟩ = some (.string a1_5) := (blk_cell BK1002.out 5).trans rfl; have hcz35_6 : w32.cell? ⟨gb1002, 6, none⟩ = some (.int .i64 a1_6) := (blk_cell BK1002.out 6).trans rfl; have hfz35_0 := bf_ BK1002 0; have hfz35_1 := bf_ BK1002 1; have hfz35_2 := bf_ BK1002 2; have hfz35_3 := bf_ BK1002 3; have hfz35_4 := bf_ BK1002 4; have hfz35_5 := bf_ BK1002 5; have hfz35_6 := bf_ BK1002 6) | ((with_reducible refine gate_callee (f := 38) rfl ?_); refine goesL_ (some 14) rfl rfl Tryd.func38 (by kernel_rfl) rfl #[.slice A0_1 l0_1.length c0_1, .slice A1_1 l1_1.length c1_1] rfl ag_ ?_; (with_reducible refine (laws_eqStringS.calls k _ _ l0_1 _ _ l1_1 true _ ?side1 ?side2 ?side3 ?side4 A4.out).mono ?_); (case side1 => exact cc_ (Kd.C_below HR0_1.out HB.out)); (case side2 => exact HC0_1.out); (case side3 => exact cc_ (Kd.C_below HR1_1.out HB.out)); (case side4 => exact HC1_1.out); rintro e w' ⟨rfl, ⟨nd, rfl⟩⟩; refine ⟨_, rfl, ?_⟩))
     go_ret
     exact ⟨rf_, bg_⟩
   ·rw [if_neg c6] at H
    have c6b0 : (a0_2.toList == a1_2.toList) = false := beq_eq_false_iff_ne.mpr c6
    have c6b1 : (a0_2.toList != a1_2.toList) = true := bne_iff_ne.mpr c6
    obtain rfl := Option.some.inj H
    go_enter Tryd.func19, Tryd.ntmps19
    go_wp2_with (first | ((with_reducible refine gate_dst (N := 2) rfl ?_); refine bx_ 2 #[.int .i64 a0_0, .slice A0_1 l0_1.length c0_1, .string a0_2, .string a0_3, .string a0_4, .string a0_5, .int .i64 a0_6] 38 ?_; intro gb1001 hg w36 hbox hb; have BK1001 := am_ (hbox); have GW1001 := am_ (gs_ hg : w.heap.size ≤ gb1001); replace HB := am_ (below_step bl_ hb); have GE1001 := GW1001; clear hb hbox hg) | ((with_reducible refine gate_dst (N := 3) rfl ?_); refine bx_ 3 #[.int .i64 a1_0, .slice A1_1 l1_1.length c1_1, .string a1_2, .string a1_3, .string a1_4, .string a1_5, .int .i64 a1_6] 38 ?_; intro gb1002 hg w37 hbox hb; have BK1002 := am_ (hbox); have GW1002 := am_ (gg_ hg : w.heap.size ≤ gb1002); have NB1001_1002 := am_ ((by rw [hg]; exact Nat.ne_of_lt (blk_lt (g := gb1001) (o := .cells #[.int .i64 a0_0, .slice A0_1 l0_1.length c0_1, .string a0_2, .string a0_3, .string a0_4, .string a0_5, .int .i64 a0_6] 38 (0, 0)) (vk_ BK1001)) : gb1001 ≠ gb1002)); have NB1002_1001 := am_ ((by rw [hg]; exact Nat.ne_of_gt (blk_lt (g := gb1001) (o := .cells #[.int .i64 a0_0, .slice A0_1 l0_1.length c0_1, .string a0_2, .string a0_3, .string a0_4, .string a0_5, .int .i64 a0_6] 38 (0, 0)) (vk_ BK1001)) : gb1002 ≠ gb1001)); replace BK1001 := am_ (blk_below (g := gb1001) (vk_ BK1001) hb); replace HB := am_ (below_step bg_ hb); have GE1002 := GW1002; clear hb hbox hg; have hnb38 := NB1001_1002.out; have hnc38 := NB1002_1001.out; have hcz39_0 : w37.cell? ⟨gb1001, 0, none⟩ = some (.int .i64 a0_0) := (blk_cell BK1001.out 0).trans rfl; have hcz39_1 : w37.cell? ⟨gb1001, 1, none⟩ = some (.slice A0_1 l0_1.length c0_1) := (blk_cell BK1001.out 1).trans rfl; have hcz39_2 : w37.cell? ⟨gb1001, 2, none⟩ = some (.string a0_2) := (blk_cell BK1001.out 2).trans rfl; have hcz39_3 : w37.cell? ⟨gb1001, 3, none⟩ = some (.string a0_3) := (blk_cell BK1001.out 3).trans rfl; have hcz39_4 : w37.cell? ⟨gb1001, 4, none⟩ = some (.string a0_4) := (blk_cell BK1001.out 4).trans rfl; have hcz39_5 : w37.cell? ⟨gb1001, 5, none⟩ = some (.string a0_5) := (blk_cell BK1001.out 5).trans rfl; have hcz39_6 : w37.cell? ⟨gb1001, 6, none⟩ = some (.int .i64 a0_6) := (blk_cell BK1001.out 6).trans rfl; have hfz39_0 := bf_ BK1001 0; have hfz39_1 := bf_ BK1001 1; have hfz39_2 := bf_ BK1001 2; have hfz39_3 := bf_ BK1001 3; have hfz39_4 := bf_ BK1001 4; have hfz39_5 := bf_ BK1001 5; have hfz39_6 := bf_ BK1001 6; have hcz40_0 : w37.cell? ⟨gb1002, 0, none⟩ = some (.int .i64 a1_0) := (blk_cell BK1002.out 0).trans rfl; have hcz40_1 : w37.cell? ⟨gb1002, 1, none⟩ = some (.slice A1_1 l1_1.length c1_1) := (blk_cell BK1002.out 1).trans rfl; have hcz40_2 : w37.cell? ⟨gb1002, 2, none⟩ = some (.string a1_2) := (blk_cell BK1002.out 2).trans rfl; have hcz40_3 : w37.cell? ⟨gb1002, 3, none⟩ = some (.string a1_3) := (blk_cell BK1002.out 3).trans rfl; have hcz40_4 : w37.cell? ⟨gb1002, 4, none⟩ = some (.string a1_4) := (blk_cell BK1002.out 4).trans rfl; have hcz40_5 : w37.cell? ⟨gb1002, 5, none⟩ = some (.string a1_5) := (blk_cell BK1002.out 5).trans rfl; have hcz40_6 : w37.cell? ⟨gb1002, 6, none⟩ = some (.int .i64 a1_6) := (blk_cell BK1002.out 6).trans rfl; have hfz40_0 := bf_ BK1002 0; have hfz40_1 := bf_ BK1002 1; have hfz40_2 := bf_ BK1002 2; have hfz40_3 := bf_ BK1002 3; have hfz40_4 := bf_ BK1002 4; have hfz40_5 := bf_ BK1002 5; have hfz40_6 := bf_ BK1002 6) | ((with_reducible refine gate_callee (f := 38) rfl ?_); refine goesL_ (some 14) rfl rfl Tryd.func38 (by kernel_rfl) rfl #[.slice A0_1 l0_1.length c0_1, .slice A1_1 l1_1.length c1_1] rfl ag_ ?_; (with_reducible refine (laws_eqStringS.calls k _ _ l0_1 _ _ l1_1 true _ ?side1 ?side2 ?side3 ?side4 A4.out).mono ?_); (case side1 => exact cc_ (Kd.C_below HR0_1.out HB.out)); (case side2 => exact HC0_1.out); (case side3 => exact cc_ (Kd.C_below HR1_1.out HB.out)); (case side4 => exact HC1_1.out); rintro e w' ⟨rfl, ⟨nd, rfl⟩⟩; refine ⟨_, rfl, ?_⟩))
    go_ret
    exact ⟨rf_, bg_⟩
  ·replace c5 := Bool.eq_false_iff.mpr c5
   subst c5
   have H1 : (some false) = some r := by rw [if_neg (show ¬ (false = true) by decide)] at H; exact H
   clear H
   have H := H1
   clear H1
   obtain rfl := Option.some.inj H
   go_enter Tryd.func19, Tryd.ntmps19
   go_wp2_with (first | ((with_reducible refine gate_dst (N := 2) rfl ?_); refine bx_ 2 #[.int .i64 a0_0, .slice A0_1 l0_1.length c0_1, .string a0_2, .string a0_3, .string a0_4, .string a0_5, .int .i64 a0_6] 38 ?_; intro gb1001 hg w41 hbox hb; have BK1001 := am_ (hbox); have GW1001 := am_ (gs_ hg : w.heap.size ≤ gb1001); replace HB := am_ (below_step bl_ hb); have GE1001 := GW1001; clear hb hbox hg) | ((with_reducible refine gate_dst (N := 3) rfl ?_); refine bx_ 3 #[.int .i64 a1_0, .slice A1_1 l1_1.length c1_1, .string a1_2, .string a1_3, .string a1_4, .string a1_5, .int .i64 a1_6] 38 ?_; intro gb1002 hg w42 hbox hb; have BK1002 := am_ (hbox); have GW1002 := am_ (gg_ hg : w.heap.size ≤ gb1002); have NB1001_1002 := am_ ((by rw [hg]; exact Nat.ne_of_lt (blk_lt (g := gb1001) (o := .cells #[.int .i64 a0_0, .slice A0_1 l0_1.length c0_1, .string a0_2, .string a0_3, .string a0_4, .string a0_5, .int .i64 a0_6] 38 (0, 0)) (vk_ BK1001)) : gb1001 ≠ gb1002)); have NB1002_1001 := am_ ((by rw [hg]; exact Nat.ne_of_gt (blk_lt (g := gb1001) (o := .cells #[.int .i64 a0_0, .slice A0_1 l0_1.length c0_1, .string a0_2, .string a0_3, .string a0_4, .string a0_5, .int .i64 a0_6] 38 (0, 0)) (vk_ BK1001)) : gb1002 ≠ gb1001)); replace BK1001 := am_ (blk_below (g := gb1001) (vk_ BK1001) hb); replace HB := am_ (below_step bg_ hb); have GE1002 := GW1002; clear hb hbox hg; have hnb43 := NB1001_1002.out; have hnc43 := NB1002_1001.out; have hcz44_0 : w42.cell? ⟨gb1001, 0, none⟩ = some (.int .i64 a0_0) := (blk_cell BK1001.out 0).trans rfl; have hcz44_1 : w42.cell? ⟨gb1001, 1, none⟩ = some (.slice A0_1 l0_1.length c0_1) := (blk_cell BK1001.out 1).trans rfl; have hcz44_2 : w42.cell? ⟨gb1001, 2, none⟩ = some (.string a0_2) := (blk_cell BK1001.out 2).trans rfl; have hcz44_3 : w42.cell? ⟨gb1001, 3, none⟩ = some (.string a0_3) := (blk_cell BK1001.out 3).trans rfl; have hcz44_4 : w42.cell? ⟨gb1001, 4, none⟩ = some (.string a0_4) := (blk_cell BK1001.out 4).trans rfl; have hcz44_5 : w42.cell? ⟨gb1001, 5, none⟩ = some (.string a0_5) := (blk_cell BK1001.out 5).trans rfl; have hcz44_6 : w42.cell? ⟨gb1001, 6, none⟩ = some (.int .i64 a0_6) := (blk_cell BK1001.out 6).trans rfl; have hfz44_0 := bf_ BK1001 0; have hfz44_1 := bf_ BK1001 1; have hfz44_2 := bf_ BK1001 2; have hfz44_3 := bf_ BK1001 3; have hfz44_4 := bf_ BK1001 4; have hfz44_5 := bf_ BK1001 5; have hfz44_6 := bf_ BK1001 6; have hcz45_0 : w42.cell? ⟨gb1002, 0, none⟩ = some (.int .i64 a1_0) := (blk_cell BK1002.out 0).trans rfl; have hcz45_1 : w42.cell? ⟨gb1002, 1, none⟩ = some (.slice A1_1 l1_1.length c1_1) := (blk_cell BK1002.out 1).trans rfl; have hcz45_2 : w42.cell? ⟨gb1002, 2, none⟩ = some (.string a1_2) := (blk_cell BK1002.out 2).trans rfl; have hcz45_3 : w42.cell? ⟨gb1002, 3, none⟩ = some (.string a1_3) := (blk_cell BK1002.out 3).trans rfl; have hcz45_4 : w42.cell? ⟨gb1002, 4, none⟩ = some (.string a1_4) := (blk_cell BK1002.out 4).trans rfl; have hcz45_5 : w42.cell? ⟨gb1002, 5, none⟩ = some (.string a1_5) := (blk_cell BK1002.out 5).trans rfl; have hcz45_6 : w42.cell? ⟨gb1002, 6, none⟩ = some (.int .i64 a1_6) := (blk_cell BK1002.out 6).trans rfl; have hfz45_0 := bf_ BK1002 0; have hfz45_1 := bf_ BK1002 1; have hfz45_2 := bf_ BK1002 2; have hfz45_3 := bf_ BK1002 3; have hfz45_4 := bf_ BK1002 4; have hfz45_5 := bf_ BK1002 5; have hfz45_6 := bf_ BK1002 6) | ((with_reducible refine gate_callee (f := 38) rfl ?_); refine goesL_ (some 14) rfl rfl Tryd.func38 (by kernel_rfl) rfl #[.slice A0_1 l0_1.length c0_1, .slice A1_1 l1_1.length c1_1] rfl ag_ ?_; (with_reducible refine (laws_eqStringS.calls k _ _ l0_1 _ _ l1_1 false _ ?side1 ?side2 ?side3 ?side4 A4.out).mono ?_); (case side1 => exact cc_ (Kd.C_below HR0_1.out HB.out)); (case side2 => exact HC0_1.out); (case side3 => exact cc_ (Kd.C_below HR1_1.out HB.out)); (case side4 => exact HC1_1.out); rintro e w' ⟨rfl, ⟨nd, rfl⟩⟩; refine ⟨_, rfl, ?_⟩))
   go_ret
   exact ⟨rf_, bg_⟩
 ·rw [if_neg c3] at H
  have c3b0 : (a0_0 == a1_0) = false := beq_eq_false_iff_ne.mpr c3
  have c3b1 : (a0_0 != a1_0) = true := bne_iff_ne.mpr c3
  obtain rfl := Option.some.inj H
  go_enter Tryd.func19, Tryd.ntmps19
  go_wp2_with (first | ((with_reducible refine gate_dst (N := 2) rfl ?_); refine bx_ 2 #[.int .i64 a0_0, .slice A0_1 l0_1.length c0_1, .string a0_2, .string a0_3, .string a0_4, .string a0_5, .int .i64 a0_6] 38 ?_; intro gb1001 hg w46 hbox hb; have BK1001 := am_ (hbox); have GW1001 := am_ (gs_ hg : w.heap.size ≤ gb1001); replace HB := am_ (below_step bl_ hb); have GE1001 := GW1001; clear hb hbox hg) | ((with_reducible refine gate_dst (N := 3) rfl ?_); refine bx_ 3 #[.int .i64 a1_0, .slice A1_1 l1_1.length c1_1, .string a1_2, .string a1_3, .string a1_4, .string a1_5, .int .i64 a1_6] 38 ?_; intro gb1002 hg w47 hbox hb; have BK1002 := am_ (hbox); have GW1002 := am_ (gg_ hg : w.heap.size ≤ gb1002); have NB1001_1002 := am_ ((by rw [hg]; exact Nat.ne_of_lt (blk_lt (g := gb1001) (o := .cells #[.int .i64 a0_0, .slice A0_1 l0_1.length c0_1, .string a0_2, .string a0_3, .string a0_4, .string a0_5, .int .i64 a0_6] 38 (0, 0)) (vk_ BK1001)) : gb1001 ≠ gb1002)); have NB1002_1001 := am_ ((by rw [hg]; exact Nat.ne_of_gt (blk_lt (g := gb1001) (o := .cells #[.int .i64 a0_0, .slice A0_1 l0_1.length c0_1, .string a0_2, .string a0_3, .string a0_4, .string a0_5, .int .i64 a0_6] 38 (0, 0)) (vk_ BK1001)) : gb1002 ≠ gb1001)); replace BK1001 := am_ (blk_below (g := gb1001) (vk_ BK1001) hb); replace HB := am_ (below_step bg_ hb); have GE1002 := GW1002; clear hb hbox hg; have hnb48 := NB1001_1002.out; have hnc48 := NB1002_1001.out; have hcz49_0 : w47.cell? ⟨gb1001, 0, none⟩ = some (.int .i64 a0_0) := (blk_cell BK1001.out 0).trans rfl; have hcz49_1 : w47.cell? ⟨gb1001, 1, none⟩ = some (.slice A0_1 l0_1.length c0_1) := (blk_cell BK1001.out 1).trans rfl; have hcz49_2 : w47.cell? ⟨gb1001, 2, none⟩ = some (.string a0_2) := (blk_cell BK1001.out 2).trans rfl; have hcz49_3 : w47.cell? ⟨gb1001, 3, none⟩ = some (.string a0_3) := (blk_cell BK1001.out 3).trans rfl; have hcz49_4 : w47.cell? ⟨gb1001, 4, none⟩ = some (.string a0_4) := (blk_cell BK1001.out 4).trans rfl; have hcz49_5 : w47.cell? ⟨gb1001, 5, none⟩ = some (.string a0_5) := (blk_cell BK1001.out 5).trans rfl; have hcz49_6 : w47.cell? ⟨gb1001, 6, none⟩ = some (.int .i64 a0_6) := (blk_cell BK1001.out 6).trans rfl; have hfz49_0 := bf_ BK1001 0; have hfz49_1 := bf_ BK1001 1; have hfz49_2 := bf_ BK1001 2; have hfz49_3 := bf_ BK1001 3; have hfz49_4 := bf_ BK1001 4; have hfz49_5 := bf_ BK1001 5; have hfz49_6 := bf_ BK1001 6; have hcz50_0 : w47.cell? ⟨gb1002, 0, none⟩ = some (.int .i64 a1_0) := (blk_cell BK1002.out 0).trans rfl; have hcz50_1 : w47.cell? ⟨gb1002, 1, none⟩ = some (.slice A1_1 l1_1.length c1_1) := (blk_cell BK1002.out 1).trans rfl; have hcz50_2 : w47.cell? ⟨gb1002, 2, none⟩ = some (.string a1_2) := (blk_cell BK1002.out 2).trans rfl; have hcz50_3 : w47.cell? ⟨gb1002, 3, none⟩ = some (.string a1_3) := (blk_cell BK1002.out 3).trans rfl; have hcz50_4 : w47.cell? ⟨gb1002, 4, none⟩ = some (.string a1_4) := (blk_cell BK1002.out 4).trans rfl; have hcz50_5 : w47.cell? ⟨gb1002, 5, none⟩ = some (.string a1_5) := (blk_cell BK1002.out 5).trans rfl; have hcz50_6 : w47.cell? ⟨gb1002, 6, none⟩ = some (.int .i64 a1_6) := (blk_cell BK1002.out 6).trans rfl; have hfz50_0 := bf_ BK1002 0; have hfz50_1 := bf_ BK1002 1; have hfz50_2 := bf_ BK1002 2; have hfz50_3 := bf_ BK1002 3; have hfz50_4 := bf_ BK1002 4; have hfz50_5 := bf_ BK1002 5; have hfz50_6 := bf_ BK1002 6))
  go_ret
  exact ⟨rf_, bg_⟩

end Go.Proofs.YtknlgignjbghkaaDoor.Pr
