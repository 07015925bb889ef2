/- The law FnExactGoodPattern holds of the given program at every input: the row as it is given, with no condition of ours; out of the printed walk and the plain statement. -/
import Derived.Test.YtijdnbenofnglaaRows
import Derived.Test.YtijdnbenofnglaaWFFnExactGoodPattern
import Derived.Test.YtijdnbenofnglaaPuFnExactGoodPattern
import Derived.Test.YtijdnbenofnglaaOp
import Derived.WalkKit
import Derived.ProofKit
import Derived.OpenShut
import Derived.ShutString
import Derived.ChangeOld
import Derived.Below
import Derived.SizedLaws
namespace Go.Proofs.Ytijdnbenofnglaa.fnExactGoodPattern
open Go.ChangeShapes Go.WideShapes Go.ChangeAt Go.RowKit Go.Proofs.Ytijdnbenofnglaa.Op Go.Proofs.Ytijdnbenofnglaa.WFFnExactGoodPattern
open Go.ChangeMaps (open_string shut_string)
open Go.Proofs.YtijdnbenofnglaaW.PrintWords (Kd)
open Go.Proofs.Ytijdnbenofnglaa.Pr
set_option linter.unusedVariables false
theorem own : ownKnob Try.prog.godebug = none := by kernel_rfl
theorem opens_i64 {P : Program} {t : Nat} (ht : P.underlying t = some (.int .i64)) (hc : P.cellsOf t = 1) : Opens P t (Kd.int .i64) I64 := (opens_int ht hc).mono (fun a h => by simp [Lit.wf, IntKind.min, IntKind.max, IntKind.bits, IntKind.signed] at h; exact h)
theorem opens_u8 {P : Program} {t : Nat} (ht : P.underlying t = some (.int .u8)) (hc : P.cellsOf t = 1) : Opens P t (Kd.int .u8) U8 := (opens_int ht hc).mono (fun a h => by simp [Lit.wf, IntKind.min, IntKind.max, IntKind.bits, IntKind.signed] at h; exact ⟨by omega, by omega⟩)
set_option maxRecDepth 100000 in
theorem lifted (os : Os) (started : os.Started) (H : Type) (enc : TypeId × Value → H) :
    ReturnsInHanded {} Try.checked os 14 .any (Rows.fnExactGoodPatternSpec.pre6 enc Try.prog Try.f14 Rows.fnExactGoodPatternRow.domain false) (Rows.fnExactGoodPatternSpec.post enc Try.prog Try.f14 false true false false) := by
  refine returnsInHanded_of_change_sized (C := Try.checked) own started (by kernel_rfl) Try.func14
    (ChangeSpec.witness6 (enc := enc) (C := Try.checked) false ⟨#[], #[.string ByteArray.empty], []⟩ 8 (by kernel_rfl) (by kernel_rfl) (by kernel_rfl) (by kernel_rfl)) ?_
  intro W base args ds gs before hval0 hW hcnd hsz0 _
  have hval : ∀ (j : Nat) t v, Try.f14.params[j]? = some t → args[j]? = some v → Value.okWide Try.prog W .any base t v := hval0
  have hW' := hW
  obtain ⟨p, q, hA0, hV, rfl, hfz, hnd⟩ := hW
  have hA : DataW.TrodAll enc Try.prog W 0 (fun _ => true) true Try.f14.params.toList args.toList ds p := hA0
  rw [Try.params14] at hA hval
  obtain ⟨v0, vs0, d0, ds0, p0, q0, hargs, rfl, rfl, h0, r0⟩ := trodAll_cons hA
  obtain ⟨rfl, rfl, rfl⟩ := trodAll_nil r0
  obtain rfl : args = #[v0] := by cases args; simp_all
  obtain ⟨rfl, rfl⟩ := trodVars_none hV
  obtain ⟨a0, rfl, rfl, rfl, w0⟩ := open_string Try.underlying9 (hval 0 9 v0 rfl rfl) h0
  clear hA0 hval0 hsz0
  obtain ⟨k, h⟩ := PuFnExactGoodPattern.pure _ w0
  refine Calls.mono (laws_FnExactGoodPattern.calls (w := W)  (h := h)) (fun e W' hp => ?_)
  obtain ⟨he, bel0⟩ := hp
  have bel : Below W.heap.size W W' := bel0
  subst he
  exact ⟨_, rfl, _, _, _, [], _, [], hW', trodAll_mk1 (shut_bool Try.underlying4 _), (trodAll_cons_mk (shut_string Try.underlying9 w0) trodAll_mk0), rfl, bel.frame _, fun h => by cases h⟩
theorem over : Rows.fnExactGoodPatternRow.holds Try.pinned (OpenSpec.ofChange Rows.fnExactGoodPatternSpec) :=
  OpenClaim.holds_of_wide 14 Try.f14 rfl rfl rfl rfl rfl rfl rfl ⟨rfl, rfl, rfl, rfl, rfl⟩ rfl rfl rfl rfl rfl (by kernel_rfl) Try.func14 (by kernel_rfl)
    (of_decide_eq_true (by kernel_rfl)) (by unfold Func.isWrapper; first | (rw [if_pos (by decide +kernel)]; kernel_rfl) | (rw [if_neg (by decide +kernel)]; exact ⟨rfl, rfl⟩))
    (fun os started H enc _ => lifted os started H enc)
end Go.Proofs.Ytijdnbenofnglaa.fnExactGoodPattern
namespace Go.Proofs.Ytijdnbenofnglaa
/-- The row, under a short name, for the claim. -/
theorem fnExactGoodPattern_holds : Rows.FnExactGoodPatternSaid := fnExactGoodPattern.over
end Go.Proofs.Ytijdnbenofnglaa
