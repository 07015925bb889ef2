/- The law FnExactPullTimes holds of the given program at every input: the row as it is given, with no condition of ours; out of the printed walk and the plain statement. -/
import Derived.Test.YtbejcmfpmoaddaaRows
import Derived.Test.YtbejcmfpmoaddaaWFFnExactPullTimes
import Derived.Test.YtbejcmfpmoaddaaPuFnExactPullTimes
import Derived.Test.YtbejcmfpmoaddaaOp
import Derived.WalkKit
import Derived.ProofKit
import Derived.OpenShut
import Derived.ShutString
import Derived.ChangeOld
import Derived.Below
import Derived.SizedLaws
namespace Go.Proofs.Ytbejcmfpmoaddaa.fnExactPullTimes
open Go.ChangeShapes Go.WideShapes Go.ChangeAt Go.RowKit Go.Proofs.Ytbejcmfpmoaddaa.Op Go.Proofs.Ytbejcmfpmoaddaa.WFFnExactPullTimes
open Go.ChangeMaps (open_string shut_string)
open Go.Proofs.YtbejcmfpmoaddaaW.PrintWords (Kd)
open Go.Proofs.Ytbejcmfpmoaddaa.Pr
set_option linter.unusedVariables false
theorem own : ownKnob Try.prog.godebug = none := by kernel_rfl
theorem laidOut : laidOutB Try.prog = true := by kernel_rfl
theorem opens_i64 {P : Program} {t : Nat} (ht : P.underlying t = some (.int .i64)) (hc : P.cellsOf t = 1) : Opens P t (Kd.int .i64) I64 := (opens_int ht hc).mono (fun a h => by simp [Lit.wf, IntKind.min, IntKind.max, IntKind.bits, IntKind.signed] at h; exact h)
theorem opens_u8 {P : Program} {t : Nat} (ht : P.underlying t = some (.int .u8)) (hc : P.cellsOf t = 1) : Opens P t (Kd.int .u8) U8 := (opens_int ht hc).mono (fun a h => by simp [Lit.wf, IntKind.min, IntKind.max, IntKind.bits, IntKind.signed] at h; exact ⟨by omega, by omega⟩)
theorem o71 : Opens Try.prog 71 k71 wf71 := Opens.mono (opens_struct (fun x => ⟨x.1, x.2⟩) (fun _ => rfl) Try.underlying71 (by kernel_rfl) (fo_cons rfl (opens_string Try.underlying9 (by kernel_rfl)) (fo_one rfl (opens_string Try.underlying9 (by kernel_rfl))))) (fun _ h => h)
theorem o74 : Opens Try.prog 74 k74 wf74 := Opens.mono (opens_struct (fun x => ⟨x.1, x.2.1, x.2.2.1, x.2.2.2.1, x.2.2.2.2.1, x.2.2.2.2.2.1, x.2.2.2.2.2.2⟩) (fun _ => rfl) Try.underlying74 (by kernel_rfl) (fo_cons rfl (opens_i64 Try.underlying3 (by kernel_rfl)) (fo_cons rfl (opens_slice Try.underlying22 (by kernel_rfl) (opens_string Try.underlying9 (by kernel_rfl))) (fo_cons rfl (opens_string Try.underlying9 (by kernel_rfl)) (fo_cons rfl (opens_string Try.underlying9 (by kernel_rfl)) (fo_cons rfl (opens_string Try.underlying9 (by kernel_rfl)) (fo_cons rfl (opens_string Try.underlying9 (by kernel_rfl)) (fo_one rfl (opens_i64 Try.underlying3 (by kernel_rfl)))))))))) (fun _ h => h)
set_option maxRecDepth 100000 in
theorem lifted (os : Os) (started : os.Started) (H : Type) (enc : TypeId × Value → H) :
    ReturnsInHanded {} Try.checked os 4 .any (Rows.fnExactPullTimesSpec.pre6 enc Try.prog Try.f4 Rows.fnExactPullTimesRow.domain false) (Rows.fnExactPullTimesSpec.post enc Try.prog Try.f4 false true false false) := by
  refine returnsInHanded_of_change_sized (C := Try.checked) own started (by kernel_rfl) Try.func4
    (ChangeSpec.witness6 (enc := enc) (C := Try.checked) false ⟨#[], #[.agg #[.slice none 0 0, .int .i64 0, .int .i64 0, .bool false, .slice none 0 0], .int .i64 0, .int .i64 0], []⟩ 8 (by kernel_rfl) (by kernel_rfl) (by kernel_rfl) (by kernel_rfl)) ?_
  intro W base args ds gs before hval0 hW hcnd hsz0 _
  have hval : ∀ (j : Nat) t v, Try.f4.params[j]? = some t → args[j]? = some v → Value.okWide Try.prog W .any base t v := hval0
  have hW' := hW
  obtain ⟨p, q, hA0, hV, rfl, hfz, hnd⟩ := hW
  have hA : DataW.TrodAll enc Try.prog W 0 (fun _ => true) true Try.f4.params.toList args.toList ds p := hA0
  rw [Try.params4] at hA hval
  obtain ⟨v0, vs0, d0, ds0, p0, q0, hargs, rfl, rfl, h0, r0⟩ := trodAll_cons hA
  obtain ⟨v1, vs1, d1, ds1, p1, q1, rfl, rfl, rfl, h1, r1⟩ := trodAll_cons r0
  obtain ⟨v2, vs2, d2, ds2, p2, q2, rfl, rfl, rfl, h2, r2⟩ := trodAll_cons r1
  obtain ⟨rfl, rfl, rfl⟩ := trodAll_nil r2
  obtain rfl : args = #[v0, v1, v2] := by cases args; simp_all
  obtain ⟨rfl, rfl⟩ := trodVars_none hV
  have k0 := h0
  have lt0 : ∀ x ∈ p0, x.block < W.heap.size := by obtain ⟨m, hm⟩ := k0; exact DataW.trod_lt m _ _ _ hm
  have os0 := opens_struct_ Try.underlying31 (by kernel_rfl) (fo_cons rfl (opens_slice Try.underlying28 (by kernel_rfl) o71) (fo_cons rfl (opens_i64 Try.underlying3 (by kernel_rfl)) (fo_cons rfl (opens_i64 Try.underlying3 (by kernel_rfl)) (fo_cons rfl (opens_bool Try.underlying4 (by kernel_rfl)) (fo_one rfl (opens_slice Try.underlying29 (by kernel_rfl) o74))))))
  obtain ⟨cs0, rfl, hs0⟩ := okWide_struct Try.underlying31 (hval 0 31 v0 rfl rfl)
  obtain ⟨⟨y0_0, y0_1, y0_2, y0_3, y0_4⟩, hk0, ⟨w0_0, w0_1, w0_2, w0_3, w0_4⟩⟩ := arg_agg os0 h0
  obtain ⟨cz0, hcz0⟩ : ∃ z, z = cs0.toList := ⟨_, rfl⟩
  rw [← hcz0] at hk0
  obtain ⟨_, _, rfl, ⟨A0_0, c0_0, rfl, hc0_0, hr0_0⟩, ⟨_, _, rfl, rfl, ⟨_, _, rfl, rfl, ⟨_, _, rfl, rfl, ⟨A0_4, c0_4, rfl, hc0_4, hr0_4⟩⟩⟩⟩⟩ := hk0
  obtain rfl : cs0 = #[.slice A0_0 y0_0.length c0_0, .int .i64 y0_1, .int .i64 y0_2, .bool y0_3, .slice A0_4 y0_4.length c0_4] := by cases cs0; simp at hcz0; simp [← hcz0]
  obtain ⟨a1, rfl, rfl, rfl, w1⟩ := open_int Try.underlying3 (hval 1 3 v1 rfl rfl) h1
  obtain ⟨a2, rfl, rfl, rfl, w2⟩ := open_int Try.underlying3 (hval 2 3 v2 rfl rfl) h2
  clear hA0 hval0 hsz0
  obtain ⟨k, h⟩ := PuFnExactPullTimes.pure _ _ _ _ _ _ _ w0_0 w0_1 w0_2 w0_4 (wf_i64 w1) (wf_i64 w2)
  refine Calls.mono (laws_FnExactPullTimes.calls (w := W) (hr0_0 := hr0_0) (hc0_0 := hc0_0) (hr0_4 := hr0_4) (hc0_4 := hc0_4) (h := h)) (fun e W' hp => ?_)
  obtain ⟨he, bel0⟩ := hp
  have bel : Below W.heap.size W W' := bel0
  subst he
  exact ⟨_, rfl, _, _, _, [], _, [], hW', trodAll_mk1 (shut_bool Try.underlying4 _), (trodAll_cons_mk (Below.trod laidOut (by kernel_rfl) (of_decide_eq_true (by kernel_rfl)) k0 bel lt0) (trodAll_cons_mk (shut_int Try.underlying3 w1) (trodAll_cons_mk (shut_int Try.underlying3 w2) trodAll_mk0))), rfl, bel.frame _, fun h => by cases h⟩
theorem over : Rows.fnExactPullTimesRow.holds Try.pinned (OpenSpec.ofChange Rows.fnExactPullTimesSpec) :=
  OpenClaim.holds_of_wide 4 Try.f4 rfl rfl rfl rfl rfl rfl rfl ⟨rfl, rfl, rfl, rfl, rfl⟩ rfl rfl rfl rfl rfl (by kernel_rfl) Try.func4 (by kernel_rfl)
    (of_decide_eq_true (by kernel_rfl)) (by unfold Func.isWrapper; first | (rw [if_pos (by decide +kernel)]; kernel_rfl) | (rw [if_neg (by decide +kernel)]; exact ⟨rfl, rfl⟩))
    (fun os started H enc _ => lifted os started H enc)
end Go.Proofs.Ytbejcmfpmoaddaa.fnExactPullTimes
namespace Go.Proofs.Ytbejcmfpmoaddaa
/-- The row, under a short name, for the claim. -/
theorem fnExactPullTimes_holds : Rows.FnExactPullTimesSaid := fnExactPullTimes.over
end Go.Proofs.Ytbejcmfpmoaddaa
