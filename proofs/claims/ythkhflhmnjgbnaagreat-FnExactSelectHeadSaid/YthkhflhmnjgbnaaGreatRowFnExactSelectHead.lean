/- The law FnExactSelectHead holds of the given program at every input: the row as it is given, with no condition of ours; out of the printed walk and the plain statement. -/
import Derived.Test.YthkhflhmnjgbnaaGreatRows
import Derived.Test.YthkhflhmnjgbnaaGreatWFFnExactSelectHead
import Derived.Test.YthkhflhmnjgbnaaGreatPuFnExactSelectHead
import Derived.Test.YthkhflhmnjgbnaaGreatOp
import Derived.WalkKit
import Derived.ProofKit
import Derived.OpenShut
import Derived.ShutString
import Derived.ChangeOld
import Derived.Below
import Derived.SizedLaws
namespace Go.Proofs.YthkhflhmnjgbnaaGreat.fnExactSelectHead
open Go.ChangeShapes Go.WideShapes Go.ChangeAt Go.RowKit Go.Proofs.YthkhflhmnjgbnaaGreat.Op Go.Proofs.YthkhflhmnjgbnaaGreat.WFFnExactSelectHead
open Go.ChangeMaps (open_string shut_string)
open Go.Proofs.YthkhflhmnjgbnaaGreatW.PrintWords (Kd)
open Go.Proofs.YthkhflhmnjgbnaaGreat.Pr
set_option linter.unusedVariables false
theorem own : ownKnob Tryz.prog.godebug = none := by kernel_rfl
theorem laidOut : laidOutB Tryz.prog = true := by kernel_rfl
theorem opens_i64 {P : Program} {t : Nat} (ht : P.underlying t = some (.int .i64)) (hc : P.cellsOf t = 1) : Opens P t (Kd.int .i64) I64 := (opens_int ht hc).mono (fun a h => by simp [Lit.wf, IntKind.min, IntKind.max, IntKind.bits, IntKind.signed] at h; exact h)
theorem opens_u8 {P : Program} {t : Nat} (ht : P.underlying t = some (.int .u8)) (hc : P.cellsOf t = 1) : Opens P t (Kd.int .u8) U8 := (opens_int ht hc).mono (fun a h => by simp [Lit.wf, IntKind.min, IntKind.max, IntKind.bits, IntKind.signed] at h; exact ⟨by omega, by omega⟩)
theorem o104 : Opens Tryz.prog 104 k104 wf104 := Opens.mono (opens_struct (fun x => ⟨x.1, x.2⟩) (fun _ => rfl) Tryz.underlying104 (by kernel_rfl) (fo_cons rfl (opens_string Tryz.underlying9 (by kernel_rfl)) (fo_one rfl (opens_string Tryz.underlying9 (by kernel_rfl))))) (fun _ h => h)
theorem o111 : Opens Tryz.prog 111 k111 wf111 := Opens.mono (opens_struct (fun x => ⟨x.1, x.2⟩) (fun _ => rfl) Tryz.underlying111 (by kernel_rfl) (fo_cons rfl (opens_i64 Tryz.underlying3 (by kernel_rfl)) (fo_one rfl (opens_i64 Tryz.underlying3 (by kernel_rfl))))) (fun _ h => h)
theorem o65 : Opens Tryz.prog 65 k65 wf65 := Opens.mono (opens_struct (fun x => ⟨x.1, x.2⟩) (fun _ => rfl) Tryz.underlying65 (by kernel_rfl) (fo_cons rfl (opens_slice Tryz.underlying62 (by kernel_rfl) o104) (fo_one rfl (opens_slice Tryz.underlying63 (by kernel_rfl) o111)))) (fun _ h => h)
theorem o45 : Opens Tryz.prog 45 k45 wf45 := Opens.mono (opens_struct (fun x => ⟨x.1, x.2.1, x.2.2⟩) (fun _ => rfl) Tryz.underlying45 (by kernel_rfl) (fo_cons rfl (opens_string Tryz.underlying9 (by kernel_rfl)) (fo_cons rfl (opens_i64 Tryz.underlying3 (by kernel_rfl)) (fo_one rfl (opens_string Tryz.underlying9 (by kernel_rfl)))))) (fun _ h => h)
set_option maxRecDepth 100000 in
theorem lifted (os : Os) (started : os.Started) (H : Type) (enc : TypeId × Value → H) :
    ReturnsInHanded {} Tryz.checked os 3 .any (Rows.fnExactSelectHeadSpec.pre6 enc Tryz.prog Tryz.f3 Rows.fnExactSelectHeadRow.domain false) (Rows.fnExactSelectHeadSpec.post enc Tryz.prog Tryz.f3 false true false false) := by
  refine returnsInHanded_of_change_sized (C := Tryz.checked) own started (by kernel_rfl) Tryz.func3
    (ChangeSpec.witness6 (enc := enc) (C := Tryz.checked) false ⟨#[], #[.agg #[.int .i64 0, .int .i64 0, .int .i64 0, .slice none 0 0], .slice none 0 0, .int .i64 0, .int .i64 0], []⟩ 8 (by kernel_rfl) (by kernel_rfl) (by kernel_rfl) (by kernel_rfl)) ?_
  intro W base args ds gs before hval0 hW hcnd hsz0 _
  have hval : ∀ (j : Nat) t v, Tryz.f3.params[j]? = some t → args[j]? = some v → Value.okWide Tryz.prog W .any base t v := hval0
  have hW' := hW
  obtain ⟨p, q, hA0, hV, rfl, hfz, hnd⟩ := hW
  have hA : DataW.TrodAll enc Tryz.prog W 0 (fun _ => true) true Tryz.f3.params.toList args.toList ds p := hA0
  rw [Tryz.params3] at hA hval
  obtain ⟨v0, vs0, d0, ds0, p0, q0, hargs, rfl, rfl, h0, r0⟩ := trodAll_cons hA
  obtain ⟨v1, vs1, d1, ds1, p1, q1, rfl, rfl, rfl, h1, r1⟩ := trodAll_cons r0
  obtain ⟨v2, vs2, d2, ds2, p2, q2, rfl, rfl, rfl, h2, r2⟩ := trodAll_cons r1
  obtain ⟨v3, vs3, d3, ds3, p3, q3, rfl, rfl, rfl, h3, r3⟩ := trodAll_cons r2
  obtain ⟨rfl, rfl, rfl⟩ := trodAll_nil r3
  obtain rfl : args = #[v0, v1, v2, v3] := by cases args; simp_all
  obtain ⟨rfl, rfl⟩ := trodVars_none hV
  have k0 := h0
  have lt0 : ∀ x ∈ p0, x.block < W.heap.size := by obtain ⟨m, hm⟩ := k0; exact DataW.trod_lt m _ _ _ hm
  have os0 := opens_struct_ Tryz.underlying24 (by kernel_rfl) (fo_cons rfl (opens_i64 Tryz.underlying3 (by kernel_rfl)) (fo_cons rfl (opens_i64 Tryz.underlying3 (by kernel_rfl)) (fo_cons rfl (opens_i64 Tryz.underlying3 (by kernel_rfl)) (fo_one rfl (opens_slice Tryz.underlying22 (by kernel_rfl) o65)))))
  obtain ⟨cs0, rfl, hs0⟩ := okWide_struct Tryz.underlying24 (hval 0 24 v0 rfl rfl)
  obtain ⟨⟨y0_0, y0_1, y0_2, y0_3⟩, hk0, ⟨w0_0, w0_1, w0_2, w0_3⟩⟩ := arg_agg os0 h0
  obtain ⟨cz0, hcz0⟩ : ∃ z, z = cs0.toList := ⟨_, rfl⟩
  rw [← hcz0] at hk0
  obtain ⟨_, _, rfl, rfl, ⟨_, _, rfl, rfl, ⟨_, _, rfl, rfl, ⟨A0_3, c0_3, rfl, hc0_3, hr0_3⟩⟩⟩⟩ := hk0
  obtain rfl : cs0 = #[.int .i64 y0_0, .int .i64 y0_1, .int .i64 y0_2, .slice A0_3 y0_3.length c0_3] := by cases cs0; simp at hcz0; simp [← hcz0]
  have k1 := h1
  have lt1 : ∀ x ∈ p1, x.block < W.heap.size := by obtain ⟨m, hm⟩ := k1; exact DataW.trod_lt m _ _ _ hm
  obtain ⟨A1, c1, l1, rfl, hc1, hr1, w1⟩ := arg_slice (okWide_slice Tryz.underlying25 (hval 1 25 v1 rfl rfl)) (opens_slice Tryz.underlying25 (by kernel_rfl) o45) h1
  obtain ⟨a2, rfl, rfl, rfl, w2⟩ := open_int Tryz.underlying3 (hval 2 3 v2 rfl rfl) h2
  obtain ⟨a3, rfl, rfl, rfl, w3⟩ := open_int Tryz.underlying3 (hval 3 3 v3 rfl rfl) h3
  clear hA0 hval0 hsz0
  obtain ⟨k, h⟩ := PuFnExactSelectHead.pure _ _ _ _ _ _ _ w0_0 w0_1 w0_2 w0_3 w1 (wf_i64 w2) (wf_i64 w3)
  refine Calls.mono (laws_FnExactSelectHead.calls (w := W) (hr0_3 := hr0_3) (hc0_3 := hc0_3) (hr1 := hr1) (hc1 := hc1) (h := h)) (fun e W' hp => ?_)
  obtain ⟨he, bel0⟩ := hp
  have bel : Below W.heap.size W W' := bel0
  subst he
  exact ⟨_, rfl, _, _, _, [], _, [], hW', trodAll_mk1 (shut_bool Tryz.underlying4 _), (trodAll_cons_mk (Below.trod laidOut (by kernel_rfl) (of_decide_eq_true (by kernel_rfl)) k0 bel lt0) (trodAll_cons_mk (Below.trod laidOut (by kernel_rfl) (of_decide_eq_true (by kernel_rfl)) k1 bel lt1) (trodAll_cons_mk (shut_int Tryz.underlying3 w2) (trodAll_cons_mk (shut_int Tryz.underlying3 w3) trodAll_mk0)))), rfl, bel.frame _, fun h => by cases h⟩
theorem over : Rows.fnExactSelectHeadRow.holds Tryz.pinned (OpenSpec.ofChange Rows.fnExactSelectHeadSpec) :=
  OpenClaim.holds_of_wide 3 Tryz.f3 rfl rfl rfl rfl rfl rfl rfl ⟨rfl, rfl, rfl, rfl, rfl⟩ rfl rfl rfl rfl rfl (by kernel_rfl) Tryz.func3 (by kernel_rfl)
    (of_decide_eq_true (by kernel_rfl)) (by unfold Func.isWrapper; first | (rw [if_pos (by decide +kernel)]; kernel_rfl) | (rw [if_neg (by decide +kernel)]; exact ⟨rfl, rfl⟩))
    (fun os started H enc _ => lifted os started H enc)
end Go.Proofs.YthkhflhmnjgbnaaGreat.fnExactSelectHead
namespace Go.Proofs.YthkhflhmnjgbnaaGreat
/-- The row, under a short name, for the claim. -/
theorem fnExactSelectHead_holds : Rows.FnExactSelectHeadSaid := fnExactSelectHead.over
end Go.Proofs.YthkhflhmnjgbnaaGreat
