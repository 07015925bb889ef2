/- The law FnExactValuesOf holds of the given program at every input: the row as it is given, with no condition of ours; out of the printed walk and the plain statement. -/
import Derived.Test.YthkhflhmnjgbnaaRows
import Derived.Test.YthkhflhmnjgbnaaWFFnExactValuesOf
import Derived.Test.YthkhflhmnjgbnaaPuFnExactValuesOf
import Derived.Test.YthkhflhmnjgbnaaOp
import Derived.WalkKit
import Derived.ProofKit
import Derived.OpenShut
import Derived.ShutString
import Derived.ChangeOld
import Derived.Below
import Derived.SizedLaws
namespace Go.Proofs.Ythkhflhmnjgbnaa.fnExactValuesOf
open Go.ChangeShapes Go.WideShapes Go.ChangeAt Go.RowKit Go.Proofs.Ythkhflhmnjgbnaa.Op Go.Proofs.Ythkhflhmnjgbnaa.WFFnExactValuesOf
open Go.ChangeMaps (open_string shut_string)
open Go.Proofs.YthkhflhmnjgbnaaW.PrintWords (Kd)
open Go.Proofs.Ythkhflhmnjgbnaa.Pr
set_option linter.unusedVariables false
theorem own : ownKnob Try.prog.godebug = none := by kernel_rfl
theorem laidOut : laidOutB Try.prog = true := by kernel_rfl
theorem opens_i64 {P : Program} {t : Nat} (ht : P.underlying t = some (.int .i64)) (hc : P.cellsOf t = 1) : Opens P t (Kd.int .i64) I64 := (opens_int ht hc).mono (fun a h => by simp [Lit.wf, IntKind.min, IntKind.max, IntKind.bits, IntKind.signed] at h; exact h)
theorem opens_u8 {P : Program} {t : Nat} (ht : P.underlying t = some (.int .u8)) (hc : P.cellsOf t = 1) : Opens P t (Kd.int .u8) U8 := (opens_int ht hc).mono (fun a h => by simp [Lit.wf, IntKind.min, IntKind.max, IntKind.bits, IntKind.signed] at h; exact ⟨by omega, by omega⟩)
theorem o80 : Opens Try.prog 80 k80 wf80 := Opens.mono (opens_struct (fun x => ⟨x.1, x.2⟩) (fun _ => rfl) Try.underlying80 (by kernel_rfl) (fo_cons rfl (opens_string Try.underlying9 (by kernel_rfl)) (fo_one rfl (opens_string Try.underlying9 (by kernel_rfl))))) (fun _ h => h)
theorem o85 : Opens Try.prog 85 k85 wf85 := Opens.mono (opens_struct (fun x => ⟨x.1, x.2⟩) (fun _ => rfl) Try.underlying85 (by kernel_rfl) (fo_cons rfl (opens_i64 Try.underlying3 (by kernel_rfl)) (fo_one rfl (opens_i64 Try.underlying3 (by kernel_rfl))))) (fun _ h => h)
theorem o39 : Opens Try.prog 39 k39 wf39 := Opens.mono (opens_struct (fun x => ⟨x.1, x.2⟩) (fun _ => rfl) Try.underlying39 (by kernel_rfl) (fo_cons rfl (opens_slice Try.underlying36 (by kernel_rfl) o80) (fo_one rfl (opens_slice Try.underlying37 (by kernel_rfl) o85)))) (fun _ h => h)
set_option maxRecDepth 100000 in
theorem lifted (os : Os) (started : os.Started) (H : Type) (enc : TypeId × Value → H) :
    ReturnsInHanded {} Try.checked os 3 .any (Rows.fnExactValuesOfSpec.pre6 enc Try.prog Try.f3 Rows.fnExactValuesOfRow.domain false) (Rows.fnExactValuesOfSpec.post enc Try.prog Try.f3 false true false false) := by
  refine returnsInHanded_of_change_sized (C := Try.checked) own started (by kernel_rfl) Try.func3
    (ChangeSpec.witness6 (enc := enc) (C := Try.checked) false ⟨#[], #[.slice none 0 0, .string ByteArray.empty], []⟩ 8 (by kernel_rfl) (by kernel_rfl) (by kernel_rfl) (by kernel_rfl)) ?_
  intro W base args ds gs before hval0 hW hcnd hsz0 _
  have hval : ∀ (j : Nat) t v, Try.f3.params[j]? = some t → args[j]? = some v → Value.okWide Try.prog W .any base t v := hval0
  have hW' := hW
  obtain ⟨p, q, hA0, hV, rfl, hfz, hnd⟩ := hW
  have hA : DataW.TrodAll enc Try.prog W 0 (fun _ => true) true Try.f3.params.toList args.toList ds p := hA0
  rw [Try.params3] at hA hval
  obtain ⟨v0, vs0, d0, ds0, p0, q0, hargs, rfl, rfl, h0, r0⟩ := trodAll_cons hA
  obtain ⟨v1, vs1, d1, ds1, p1, q1, rfl, rfl, rfl, h1, r1⟩ := trodAll_cons r0
  obtain ⟨rfl, rfl, rfl⟩ := trodAll_nil r1
  obtain rfl : args = #[v0, v1] := by cases args; simp_all
  obtain ⟨rfl, rfl⟩ := trodVars_none hV
  have k0 := h0
  have lt0 : ∀ x ∈ p0, x.block < W.heap.size := by obtain ⟨m, hm⟩ := k0; exact DataW.trod_lt m _ _ _ hm
  obtain ⟨A0, c0, l0, rfl, hc0, hr0, w0⟩ := arg_slice (okWide_slice Try.underlying22 (hval 0 22 v0 rfl rfl)) (opens_slice Try.underlying22 (by kernel_rfl) o39) h0
  obtain ⟨a1, rfl, rfl, rfl, w1⟩ := open_string Try.underlying9 (hval 1 9 v1 rfl rfl) h1
  clear hA0 hval0 hsz0
  obtain ⟨k, h⟩ := PuFnExactValuesOf.pure _ _ w0 w1
  refine Calls.mono (laws_FnExactValuesOf.calls (w := W) (hr0 := hr0) (hc0 := hc0) (h := h)) (fun e W' hp => ?_)
  obtain ⟨he, bel0⟩ := hp
  have bel : Below W.heap.size W W' := bel0
  subst he
  exact ⟨_, rfl, _, _, _, [], _, [], hW', trodAll_mk1 (shut_bool Try.underlying4 _), (trodAll_cons_mk (Below.trod laidOut (by kernel_rfl) (of_decide_eq_true (by kernel_rfl)) k0 bel lt0) (trodAll_cons_mk (shut_string Try.underlying9 w1) trodAll_mk0)), rfl, bel.frame _, fun h => by cases h⟩
theorem over : Rows.fnExactValuesOfRow.holds Try.pinned (OpenSpec.ofChange Rows.fnExactValuesOfSpec) :=
  OpenClaim.holds_of_wide 3 Try.f3 rfl rfl rfl rfl rfl rfl rfl ⟨rfl, rfl, rfl, rfl, rfl⟩ rfl rfl rfl rfl rfl (by kernel_rfl) Try.func3 (by kernel_rfl)
    (of_decide_eq_true (by kernel_rfl)) (by unfold Func.isWrapper; first | (rw [if_pos (by decide +kernel)]; kernel_rfl) | (rw [if_neg (by decide +kernel)]; exact ⟨rfl, rfl⟩))
    (fun os started H enc _ => lifted os started H enc)
end Go.Proofs.Ythkhflhmnjgbnaa.fnExactValuesOf
namespace Go.Proofs.Ythkhflhmnjgbnaa
/-- The row, under a short name, for the claim. -/
theorem fnExactValuesOf_holds : Rows.FnExactValuesOfSaid := fnExactValuesOf.over
end Go.Proofs.Ythkhflhmnjgbnaa
