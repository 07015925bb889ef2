/- The law FnExactGoodBits holds of the given program at every input: the row as it is given, with no condition of ours; out of the printed walk and the plain statement. -/
import Derived.Test.YtijdnbenofnglaaRows
import Derived.Test.YtijdnbenofnglaaWFFnExactGoodBits
import Derived.Test.YtijdnbenofnglaaPuFnExactGoodBits
import Derived.Test.YtijdnbenofnglaaOp
import Derived.WalkKit
import Derived.ProofKit
import Derived.OpenShut
import Derived.ShutString
import Derived.ChangeOld
import Derived.Below
import Derived.SizedLaws
namespace Go.Proofs.Ytijdnbenofnglaa.fnExactGoodBits
open Go.ChangeShapes Go.WideShapes Go.ChangeAt Go.RowKit Go.Proofs.Ytijdnbenofnglaa.Op Go.Proofs.Ytijdnbenofnglaa.WFFnExactGoodBits
open Go.ChangeMaps (open_string shut_string)
open Go.Proofs.YtijdnbenofnglaaW.PrintWords (Kd)
open Go.Proofs.Ytijdnbenofnglaa.Pr
set_option linter.unusedVariables false
theorem own : ownKnob Try.prog.godebug = none := by kernel_rfl
theorem laidOut : laidOutB Try.prog = true := by kernel_rfl
theorem opens_i64 {P : Program} {t : Nat} (ht : P.underlying t = some (.int .i64)) (hc : P.cellsOf t = 1) : Opens P t (Kd.int .i64) I64 := (opens_int ht hc).mono (fun a h => by simp [Lit.wf, IntKind.min, IntKind.max, IntKind.bits, IntKind.signed] at h; exact h)
theorem opens_u8 {P : Program} {t : Nat} (ht : P.underlying t = some (.int .u8)) (hc : P.cellsOf t = 1) : Opens P t (Kd.int .u8) U8 := (opens_int ht hc).mono (fun a h => by simp [Lit.wf, IntKind.min, IntKind.max, IntKind.bits, IntKind.signed] at h; exact ⟨by omega, by omega⟩)
set_option maxRecDepth 100000 in
theorem lifted (os : Os) (started : os.Started) (H : Type) (enc : TypeId × Value → H) :
    ReturnsInHanded {} Try.checked os 13 .any (Rows.fnExactGoodBitsSpec.pre6 enc Try.prog Try.f13 Rows.fnExactGoodBitsRow.domain false) (Rows.fnExactGoodBitsSpec.post enc Try.prog Try.f13 false true false false) := by
  refine returnsInHanded_of_change_sized (C := Try.checked) own started (by kernel_rfl) Try.func13
    (ChangeSpec.witness6 (enc := enc) (C := Try.checked) false ⟨#[], #[.agg #[.slice none 0 0, .int .i64 0]], []⟩ 8 (by kernel_rfl) (by kernel_rfl) (by kernel_rfl) (by kernel_rfl)) ?_
  intro W base args ds gs before hval0 hW hcnd hsz0 _
  have hval : ∀ (j : Nat) t v, Try.f13.params[j]? = some t → args[j]? = some v → Value.okWide Try.prog W .any base t v := hval0
  have hW' := hW
  obtain ⟨p, q, hA0, hV, rfl, hfz, hnd⟩ := hW
  have hA : DataW.TrodAll enc Try.prog W 0 (fun _ => true) true Try.f13.params.toList args.toList ds p := hA0
  rw [Try.params13] at hA hval
  obtain ⟨v0, vs0, d0, ds0, p0, q0, hargs, rfl, rfl, h0, r0⟩ := trodAll_cons hA
  obtain ⟨rfl, rfl, rfl⟩ := trodAll_nil r0
  obtain rfl : args = #[v0] := by cases args; simp_all
  obtain ⟨rfl, rfl⟩ := trodVars_none hV
  have k0 := h0
  have lt0 : ∀ x ∈ p0, x.block < W.heap.size := by obtain ⟨m, hm⟩ := k0; exact DataW.trod_lt m _ _ _ hm
  have os0 := opens_struct_ Try.underlying45 (by kernel_rfl) (fo_cons rfl (opens_slice Try.underlying25 (by kernel_rfl) (opens_u8 Try.underlying5 (by kernel_rfl))) (fo_one rfl (opens_i64 Try.underlying3 (by kernel_rfl))))
  obtain ⟨cs0, rfl, hs0⟩ := okWide_struct Try.underlying45 (hval 0 45 v0 rfl rfl)
  obtain ⟨⟨y0_0, y0_1⟩, hk0, ⟨w0_0, w0_1⟩⟩ := arg_agg os0 h0
  obtain ⟨cz0, hcz0⟩ : ∃ z, z = cs0.toList := ⟨_, rfl⟩
  rw [← hcz0] at hk0
  obtain ⟨_, _, rfl, ⟨A0_0, c0_0, rfl, hc0_0, hr0_0⟩, rfl⟩ := hk0
  obtain rfl : cs0 = #[.slice A0_0 y0_0.length c0_0, .int .i64 y0_1] := by cases cs0; simp at hcz0; simp [← hcz0]
  clear hA0 hval0 hsz0
  obtain ⟨k, h⟩ := PuFnExactGoodBits.pure _ _ w0_0 w0_1
  refine Calls.mono (laws_FnExactGoodBits.calls (w := W) (hr0_0 := hr0_0) (hc0_0 := hc0_0) (h := h)) (fun e W' hp => ?_)
  obtain ⟨he, bel0⟩ := hp
  have bel : Below W.heap.size W W' := bel0
  subst he
  exact ⟨_, rfl, _, _, _, [], _, [], hW', trodAll_mk1 (shut_bool Try.underlying4 _), (trodAll_cons_mk (Below.trod laidOut (by kernel_rfl) (of_decide_eq_true (by kernel_rfl)) k0 bel lt0) trodAll_mk0), rfl, bel.frame _, fun h => by cases h⟩
theorem over : Rows.fnExactGoodBitsRow.holds Try.pinned (OpenSpec.ofChange Rows.fnExactGoodBitsSpec) :=
  OpenClaim.holds_of_wide 13 Try.f13 rfl rfl rfl rfl rfl rfl rfl ⟨rfl, rfl, rfl, rfl, rfl⟩ rfl rfl rfl rfl rfl (by kernel_rfl) Try.func13 (by kernel_rfl)
    (of_decide_eq_true (by kernel_rfl)) (by unfold Func.isWrapper; first | (rw [if_pos (by decide +kernel)]; kernel_rfl) | (rw [if_neg (by decide +kernel)]; exact ⟨rfl, rfl⟩))
    (fun os started H enc _ => lifted os started H enc)
end Go.Proofs.Ytijdnbenofnglaa.fnExactGoodBits
namespace Go.Proofs.Ytijdnbenofnglaa
/-- The row, under a short name, for the claim. -/
theorem fnExactGoodBits_holds : Rows.FnExactGoodBitsSaid := fnExactGoodBits.over
end Go.Proofs.Ytijdnbenofnglaa
