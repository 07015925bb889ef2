/- The law FnExactRelabelText holds of the given program at every input: the row as it is given, with no condition of ours; out of the printed walk and the plain statement. -/
import Derived.Test.YtknlgignjbghkaaDoorRows
import Derived.Test.YtknlgignjbghkaaDoorWFFnExactRelabelText
import Derived.Test.YtknlgignjbghkaaDoorPuFnExactRelabelText
import Derived.Test.YtknlgignjbghkaaDoorOp
import Derived.Test.YtknlgignjbghkaaDoorTie
import Derived.Test.YtknlgignjbghkaaDoorCards
import Derived.LaidMore
import Derived.Lay
import Derived.OpenVars
import Derived.Stop.Joined
import Derived.SevenTiedAt
import Derived.WalkKit
import Derived.ProofKit
import Derived.OpenShut
import Derived.ShutString
import Derived.ChangeOld
import Derived.Below
import Derived.SizedLaws
namespace Go.Proofs.YtknlgignjbghkaaDoor.fnExactRelabelText
open Go.ChangeShapes Go.WideShapes Go.ChangeAt Go.RowKit Go.Proofs.YtknlgignjbghkaaDoor.Op Go.Proofs.YtknlgignjbghkaaDoor.WFFnExactRelabelText
open Go.ChangeMaps (open_string shut_string)
open Go.Proofs.YtknlgignjbghkaaDoorW.PrintWords (Kd)
open Go.Proofs.YtknlgignjbghkaaDoor.Pr
set_option linter.unusedVariables false
theorem own : ownKnob Tryd.prog.godebug = none := by kernel_rfl
theorem laidOut : laidOutB Tryd.prog = true := by kernel_rfl
theorem opens_i64 {P : Program} {t : Nat} (ht : P.underlying t = some (.int .i64)) (hc : P.cellsOf t = 1) : Opens P t (Kd.int .i64) I64 := (opens_int ht hc).mono (fun a h => by simp [Lit.wf, IntKind.min, IntKind.max, IntKind.bits, IntKind.signed] at h; exact h)
theorem opens_u8 {P : Program} {t : Nat} (ht : P.underlying t = some (.int .u8)) (hc : P.cellsOf t = 1) : Opens P t (Kd.int .u8) U8 := (opens_int ht hc).mono (fun a h => by simp [Lit.wf, IntKind.min, IntKind.max, IntKind.bits, IntKind.signed] at h; exact ⟨by omega, by omega⟩)
theorem tab0 {W : World} (h : laidMetH Tryd.prog Rows.fnExactRelabelTextRow.laid W) : Tg0 W := by
  rw [MakeChecks.laidMetH_plain _ _ _ (by kernel_rfl)] at h
  obtain ⟨ps, ⟨_, _, _, _, _, _, _, _, _, _, ⟨_, _, _, _, _, _, _, _, _, _, ⟨_, _, _, _, _, _, _, _, _, _, ⟨g, t, cs, fuel, p_, q_, hg, ht, hv, hd, _, _⟩, _⟩, _⟩, _⟩, _, _⟩ := h
  obtain rfl := Option.some.inj ((show Tryd.prog.globalNamed "loop.example/g00039/impl.relWords" = some 0 by kernel_rfl).symm.trans hg)
  obtain rfl := Option.some.inj ((show (Tryd.prog.globals[0]?).map (·.type) = some 59 by kernel_rfl).symm.trans ht)
  obtain ⟨xs, m, _, ex, _, hl, hel⟩ := DataW.trod_array Tryd.underlying59 hd
  have c5 : Tryd.prog.cellsOf 9 = 1 := by kernel_rfl
  refine ⟨tab_row (b := 0) (l := lT0) (by decide) (fun r sv hr => ?_)⟩
  have hr5 : r < 9 := (List.getElem?_eq_some_iff.1 hr).1
  have hE := hel r hr5
  rw [c5, Nat.mul_one, List.getElem?_eq_getElem (by omega)] at hE
  obtain ⟨z, e1, e2, _⟩ := DataW.trod_string Tryd.underlying9 hE
  have e3 : (xs.map (·.1)) = lT0.map fun b => (DataW.lit (.string b.data.toList) : DataW Unit) := (DataW.agg.inj (Prod.mk.inj ex).1).symm
  have e4 : (xs.map (·.1))[r]? = (lT0.map fun b => (DataW.lit (.string b.data.toList) : DataW Unit))[r]? := by rw [e3]
  rw [List.getElem?_map, List.getElem?_map, List.getElem?_eq_getElem (by omega : r < xs.length), hr, e2] at e4
  have hz : z = sv := by
    simp only [Option.map_some, Option.some.injEq, DataW.lit.injEq, Lit.string.injEq] at e4
    exact ByteArray.ext (Array.toList_inj.1 e4)
  rw [World.var?_cell hg hv r, ← hz]
  have : cs.toList[r]? = some (.string z) := by
    have h0 : ((cs.toList.drop r).take 1)[0]? = some (.string z) := by rw [e1]; rfl
    simpa using h0
  simpa using this
theorem tab3 {W : World} (h : laidMetH Tryd.prog Rows.fnExactRelabelTextRow.laid W) : Tg3 W := by
  rw [MakeChecks.laidMetH_plain _ _ _ (by kernel_rfl)] at h
  obtain ⟨ps, ⟨_, _, _, _, _, _, _, _, _, _, ⟨_, _, _, _, _, _, _, _, _, _, ⟨g, t, cs, fuel, p_, q_, hg, ht, hv, hd, _, _⟩, _⟩, _⟩, _, _⟩ := h
  obtain rfl := Option.some.inj ((show Tryd.prog.globalNamed "internal/strconv.uint64pow10" = some 3 by kernel_rfl).symm.trans hg)
  obtain rfl := Option.some.inj ((show (Tryd.prog.globals[3]?).map (·.type) = some 122 by kernel_rfl).symm.trans ht)
  have hd2 : DataW.trod _ Tryd.prog W 0 _ false fuel 122 cs.toList = some (Lib.tabData .u64 Lib.pow10Tab, p_) := hd
  refine ⟨?_⟩
  unfold Lib.TabIs
  rw [hv, ← Lib.cells_of_tab Tryd.underlying122 Tryd.underlying115 (by kernel_rfl) (by kernel_rfl) hd2]
set_option maxRecDepth 100000 in
theorem lifted (os : Os) (started : os.Started) (H : Type) (enc : TypeId × Value → H) :
    ReturnsInHanded {} Tryd.checked os 5 .any (fun w args => (Rows.fnExactRelabelTextSpec.pre enc Tryd.prog Tryd.f5 Rows.fnExactRelabelTextRow.domain false w args ∧ laidMetH Tryd.prog Rows.fnExactRelabelTextRow.laid w) ∧ sizedMet enc Tryd.prog Tryd.f5 (OpenSpec.ofChange Rows.fnExactRelabelTextSpec) false w args) (Rows.fnExactRelabelTextSpec.post enc Tryd.prog Tryd.f5 false true false false) := by
  refine returnsInHanded_of_change_and (C := Tryd.checked) (X := fun w _ => laidMetH Tryd.prog Rows.fnExactRelabelTextRow.laid w) (fun _ _ _ hh h => h.of_heap hh) own started (by kernel_rfl) Tryd.func5
    (ChangeSpec.witness_shaped (enc := enc) (C := Tryd.checked) (os := os) (X := fun w _ => laidMetH Tryd.prog Rows.fnExactRelabelTextRow.laid w) false (World.laidAll Tryd.prog os Rows.fnExactRelabelTextRow.laid) #[.agg #[.int .i64 0, .slice none 0 0, .string ByteArray.empty, .string ByteArray.empty, .string ByteArray.empty, .string ByteArray.empty, .int .i64 0]] 8 (World.laidAll_os _ _ _)
      (World.shaped_of_ZipB (by kernel_rfl) (by kernel_rfl)) (by kernel_rfl) (by kernel_rfl) (by kernel_rfl)
      (by rw [MakeChecks.laidMetH_plain _ _ _ (by kernel_rfl)]; exact laidMet_laidAll _ (by kernel_rfl) (by kernel_rfl))) ?_
  intro W base args ds gs before hval0 hW hcnd hsz0 hL _
  have hval : ∀ (j : Nat) t v, Tryd.f5.params[j]? = some t → args[j]? = some v → Value.okWide Tryd.prog W .any base t v := hval0
  have hW' := hW
  obtain ⟨p, q, hA0, hV, rfl, hfz, hnd⟩ := hW
  have hA : DataW.TrodAll enc Tryd.prog W 0 (fun _ => true) true Tryd.f5.params.toList args.toList ds p := hA0
  rw [Tryd.params5] at hA hval
  obtain ⟨v0, vs0, d0, ds0, p0, q0, hargs, rfl, rfl, h0, r0⟩ := trodAll_cons hA
  obtain ⟨rfl, rfl, rfl⟩ := trodAll_nil r0
  obtain rfl : args = #[v0] := by cases args; simp_all
  have hV2 := hV
  obtain ⟨_, _, _, _, _, _, rfl, _, _, _, _, _⟩ := trodVars_one hV
  have k0 := h0
  have lt0 : ∀ x ∈ p0, x.block < W.heap.size := by obtain ⟨m, hm⟩ := k0; exact DataW.trod_lt m _ _ _ hm
  have os0 := opens_struct_ Tryd.underlying35 (by kernel_rfl) (fo_cons rfl (opens_i64 Tryd.underlying3 (by kernel_rfl)) (fo_cons rfl (opens_slice Tryd.underlying33 (by kernel_rfl) (opens_string Tryd.underlying9 (by kernel_rfl))) (fo_cons rfl (opens_string Tryd.underlying9 (by kernel_rfl)) (fo_cons rfl (opens_string Tryd.underlying9 (by kernel_rfl)) (fo_cons rfl (opens_string Tryd.underlying9 (by kernel_rfl)) (fo_cons rfl (opens_string Tryd.underlying9 (by kernel_rfl)) (fo_one rfl (opens_i64 Tryd.underlying3 (by kernel_rfl)))))))))
  obtain ⟨cs0, rfl, hs0⟩ := okWide_struct Tryd.underlying35 (hval 0 35 v0 rfl rfl)
  obtain ⟨⟨y0_0, y0_1, y0_2, y0_3, y0_4, y0_5, y0_6⟩, hk0, ⟨w0_0, w0_1, w0_2, w0_3, w0_4, w0_5, w0_6⟩⟩ := arg_agg os0 h0
  obtain ⟨cz0, hcz0⟩ : ∃ z, z = cs0.toList := ⟨_, rfl⟩
  rw [← hcz0] at hk0
  obtain ⟨_, _, rfl, rfl, ⟨_, _, rfl, ⟨A0_1, c0_1, rfl, hc0_1, hr0_1⟩, ⟨_, _, rfl, rfl, ⟨_, _, rfl, rfl, ⟨_, _, rfl, rfl, ⟨_, _, rfl, rfl, rfl⟩⟩⟩⟩⟩⟩ := hk0
  obtain rfl : cs0 = #[.int .i64 y0_0, .slice A0_1 y0_1.length c0_1, .string y0_2, .string y0_3, .string y0_4, .string y0_5, .int .i64 y0_6] := by cases cs0; simp at hcz0; simp [← hcz0]
  clear hA0 hval0 hsz0
  obtain ⟨k, h⟩ := PuFnExactRelabelText.pure _ _ _ _ _ _ _ w0_0 w0_1 w0_2 w0_3 w0_4 w0_5 w0_6
  refine Calls.mono (laws_FnExactRelabelText.calls (w := W) (hr0_1 := hr0_1) (hc0_1 := hc0_1) (hT0 := tab0 hL) (hT3 := tab3 hL) (h := h)) (fun e W' hp => ?_)
  obtain ⟨he, bel0⟩ := hp
  have bel : Below W.heap.size W W' := bel0
  subst he
  exact ⟨_, rfl, _, _, _, [], _, _, hW', trodAll_mk1 (shut_bool Tryd.underlying4 _), (trodAll_cons_mk (Below.trod laidOut (by kernel_rfl) (of_decide_eq_true (by kernel_rfl)) k0 bel lt0) trodAll_mk0), bel.trodVars laidOut (by kernel_rfl) hV2, bel.frame _, fun h => by cases h⟩
theorem over : Rows.fnExactRelabelTextRow.holds Tryd.pinned (OpenSpec.ofChange Rows.fnExactRelabelTextSpec) :=
  OpenClaim.holds_of_wide 5 Tryd.f5 rfl rfl rfl rfl rfl rfl rfl ⟨rfl, rfl, rfl, rfl, rfl⟩ rfl rfl rfl rfl rfl (by kernel_rfl) Tryd.func5 (by kernel_rfl)
    (of_decide_eq_true (by kernel_rfl)) (by unfold Func.isWrapper; first | (rw [if_pos (by decide +kernel)]; kernel_rfl) | (rw [if_neg (by decide +kernel)]; exact ⟨rfl, rfl⟩))
    (fun os started H enc _ => lifted os started H enc)
end Go.Proofs.YtknlgignjbghkaaDoor.fnExactRelabelText
namespace Go.Proofs.YtknlgignjbghkaaDoor
/-- The row, under a short name, for the claim. -/
theorem fnExactRelabelText_holds : Rows.FnExactRelabelTextSaid := fnExactRelabelText.over
/-- The tied card: the row, with what it lists tied to the program's text. -/
theorem fnExactRelabelTextCard_holds : Rows.FnExactRelabelTextCardSaid :=
  Claim7.holds_tied_plain_at .later [] [.data, .data, .data, .widerDeep] true (true, "14d09a34bdedf82015cd8486693eb54502c28d04e5cdd25bb3b3d062f42cf541") false
    fnExactRelabelText_holds (fun _ h => by cases h) (by kernel_rfl) (fun _ h => by cases h) fnExactRelabelText_row_tie rfl ⟨rfl, rfl⟩ (by kernel_rfl) rfl
    (fun f fn hf hfn => by
      obtain rfl : f = 5 := Option.some.inj ((show Tryd.prog.funcNamed "loop.example/g00039/laws.FnExactRelabelText" = some 5 by kernel_rfl).symm.trans hf) |>.symm
      obtain rfl : fn = Tryd.f5 := (Option.some.inj (Tryd.func5.symm.trans hfn)).symm
      exact ⟨by kernel_rfl, fun j t ht => by
        rw [Tryd.params5] at ht
        have hm : t ∈ [35] := by simpa using Array.mem_of_getElem? ht
        have hall : ([35].all fun u => !Tryd.prog.wantsStandIn u) = true := by kernel_rfl
        exact (show Tryd.prog.wantsStandIn t = false by simpa using List.all_eq_true.1 hall t hm)⟩)
    (by kernel_rfl)
end Go.Proofs.YtknlgignjbghkaaDoor
