/- The law FnExactMergeSeries holds of the given program at every input: the row as it is given, with no condition of ours; out of the printed walk and the plain statement. -/
import Derived.Test.YtfdbbpnmnogddaaRows
import Derived.Test.YtfdbbpnmnogddaaWFFnExactMergeSeries
import Derived.Test.YtfdbbpnmnogddaaPuFnExactMergeSeries
import Derived.Test.YtfdbbpnmnogddaaOp
import Derived.WalkKit
import Derived.ProofKit
import Derived.OpenShut
import Derived.ShutString
import Derived.ChangeOld
import Derived.Below
import Derived.SizedLaws
set_option maxRecDepth 100000
namespace Go.Proofs.Ytfdbbpnmnogddaa.fnExactMergeSeries
open Go.ChangeShapes Go.WideShapes Go.ChangeAt Go.RowKit Go.Proofs.Ytfdbbpnmnogddaa.Op Go.Proofs.Ytfdbbpnmnogddaa.WFFnExactMergeSeries
open Go.ChangeMaps (open_string shut_string)
open Go.Proofs.YtfdbbpnmnogddaaW.PrintWords (Kd)
open Go.Proofs.Ytfdbbpnmnogddaa.Pr
set_option linter.unusedVariables false
theorem own : ownKnob Try.prog.godebug = none:=by kernel_rfl
theorem laidOut : laidOutB Try.prog = true:=by kernel_rfl
theorem opens_i64 {P : Program} {t : Nat} (ht : P.underlying t = some (.int .i64)) (hc : P.cellsOf t = 1) : Opens P t (Kd.int .i64) I64:=(opens_int ht hc).mono (fun a h => by simp [Lit.wf,IntKind.min,IntKind.max,IntKind.bits,IntKind.signed] at h;exact h)
theorem opens_u8 {P : Program} {t : Nat} (ht : P.underlying t = some (.int .u8)) (hc : P.cellsOf t = 1) : Opens P t (Kd.int .u8) U8:=(opens_int ht hc).mono (fun a h => by simp [Lit.wf,IntKind.min,IntKind.max,IntKind.bits,IntKind.signed] at h;exact ⟨by omega,by omega⟩)
theorem o52 : Opens Try.prog 52 k52 wf52:=Opens.mono (opens_struct (fun x => ⟨x.1,x.2⟩) (fun _ => rfl) Try.underlying52 (by kernel_rfl) (fo_cons rfl (opens_string Try.underlying9 (by kernel_rfl)) (fo_one rfl (opens_string Try.underlying9 (by kernel_rfl))))) (fun _ h => h)
theorem o116 : Opens Try.prog 116 k116 wf116:=Opens.mono (opens_struct (fun x => ⟨x.1,x.2⟩) (fun _ => rfl) Try.underlying116 (by kernel_rfl) (fo_cons rfl (opens_i64 Try.underlying3 (by kernel_rfl)) (fo_one rfl (opens_i64 Try.underlying3 (by kernel_rfl))))) (fun _ h => h)
theorem o65 : Opens Try.prog 65 k65 wf65:=Opens.mono (opens_struct (fun x => ⟨x.1,x.2⟩) (fun _ => rfl) Try.underlying65 (by kernel_rfl) (fo_cons rfl (opens_slice Try.underlying22 (by kernel_rfl) o52) (fo_one rfl (opens_slice Try.underlying63 (by kernel_rfl) o116)))) (fun _ h => h)
theorem lifted (os : Os) (started : os.Started) (H : Type) (enc : TypeId × Value → H) :
    ReturnsInHanded {} Try.checked os 4 .any (Rows.fnExactMergeSeriesSpec.pre6 enc Try.prog Try.f4 Rows.fnExactMergeSeriesRow.domain false) (Rows.fnExactMergeSeriesSpec.post enc Try.prog Try.f4 false true false false):=by
  refine returnsInHanded_of_change_sized (C:=Try.checked) own started (by kernel_rfl) Try.func4
    (ChangeSpec.witness6 (enc:=enc) (C:=Try.checked) false ⟨#[],#[.slice none 0 0,.slice none 0 0],[]⟩ 8 (by kernel_rfl) (by kernel_rfl) (by kernel_rfl) (by kernel_rfl)) ?_
  intro W base args ds gs before hval0 hW hcnd hsz0 _
  have hval : ∀ (j : Nat) t v,Try.f4.params[j]? = some t → args[j]? = some v → Value.okWide Try.prog W .any base t v:=hval0
  have hW':=hW
  obtain ⟨p,q,hA0,hV,rfl,hfz,hnd⟩:=hW
  have hA : DataW.TrodAll enc Try.prog W 0 (fun _ => true) true Try.f4.params.toList args.toList ds p:=hA0
  rw [Try.params4] at hA hval
  obtain ⟨v0,vs0,d0,ds0,p0,q0,hargs,rfl,rfl,h0,r0⟩:=trodAll_cons hA
  obtain ⟨v1,vs1,d1,ds1,p1,q1,rfl,rfl,rfl,h1,r1⟩:=trodAll_cons r0
  obtain ⟨rfl,rfl,rfl⟩:=trodAll_nil r1
  obtain rfl : args = #[v0,v1]:=by cases args;simp_all
  obtain ⟨rfl,rfl⟩:=trodVars_none hV
  have k0:=h0
  have lt0 : ∀ x ∈ p0,x.block < W.heap.size:=by obtain ⟨m,hm⟩:=k0;exact DataW.trod_lt m _ _ _ hm
  obtain ⟨A0,c0,l0,rfl,hc0,hr0,w0⟩:=arg_slice (okWide_slice Try.underlying41 (hval 0 41 v0 rfl rfl)) (opens_slice Try.underlying41 (by kernel_rfl) o65) h0
  have k1:=h1
  have lt1 : ∀ x ∈ p1,x.block < W.heap.size:=by obtain ⟨m,hm⟩:=k1;exact DataW.trod_lt m _ _ _ hm
  obtain ⟨A1,c1,l1,rfl,hc1,hr1,w1⟩:=arg_slice (okWide_slice Try.underlying41 (hval 1 41 v1 rfl rfl)) (opens_slice Try.underlying41 (by kernel_rfl) o65) h1
  clear hA0 hval0 hsz0
  obtain ⟨k,h⟩:=PuFnExactMergeSeries.pure _ _ w0 w1
  refine Calls.mono (laws_FnExactMergeSeries.calls (w:=W) (hr0:=hr0) (hc0:=hc0) (hr1:=hr1) (hc1:=hc1) (h:=h)) (fun e W' hp => ?_)
  obtain ⟨he,bel0⟩:=hp
  have bel : Below W.heap.size W W':=bel0
  subst he
  exact ⟨_,rfl,_,_,_,[],_,[],hW',trodAll_mk1 (shut_bool Try.underlying4 _),(trodAll_cons_mk (Below.trod laidOut (by kernel_rfl) (of_decide_eq_true (by kernel_rfl)) k0 bel lt0) (trodAll_cons_mk (Below.trod laidOut (by kernel_rfl) (of_decide_eq_true (by kernel_rfl)) k1 bel lt1) trodAll_mk0)),rfl,bel.frame _,fun h => by cases h⟩
theorem over : Rows.fnExactMergeSeriesRow.holds Try.pinned (OpenSpec.ofChange Rows.fnExactMergeSeriesSpec) :=
  OpenClaim.holds_of_wide 4 Try.f4 rfl rfl rfl rfl rfl rfl rfl ⟨rfl,rfl,rfl,rfl,rfl⟩ rfl rfl rfl rfl rfl (by kernel_rfl) Try.func4 (by kernel_rfl)
    (of_decide_eq_true (by kernel_rfl)) (by unfold Func.isWrapper;first|(rw [if_pos (by decide +kernel)];kernel_rfl)|(rw [if_neg (by decide +kernel)];exact ⟨rfl,rfl⟩))
    (fun os started H enc _ => lifted os started H enc)
end Go.Proofs.Ytfdbbpnmnogddaa.fnExactMergeSeries
namespace Go.Proofs.Ytfdbbpnmnogddaa
theorem fnExactMergeSeries_holds : Rows.FnExactMergeSeriesSaid:=fnExactMergeSeries.over
end Go.Proofs.Ytfdbbpnmnogddaa
