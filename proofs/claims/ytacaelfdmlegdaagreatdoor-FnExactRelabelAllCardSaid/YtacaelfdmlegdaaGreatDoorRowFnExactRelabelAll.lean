/- The law FnExactRelabelAll holds of the given program at every input: the row as it is given, with no condition of ours; out of the printed walk and the plain statement. -/
import Derived.Test.YtacaelfdmlegdaaGreatDoorRows
import Derived.Test.YtacaelfdmlegdaaGreatDoorWFFnExactRelabelAll
import Derived.Test.YtacaelfdmlegdaaGreatDoorPuFnExactRelabelAll
import Derived.Test.YtacaelfdmlegdaaGreatDoorOp
import Derived.Test.YtacaelfdmlegdaaGreatDoorTie
import Derived.Test.YtacaelfdmlegdaaGreatDoorCards
import Derived.LaidMore
import Derived.Lay
import Derived.OpenVars
import Derived.Stop.Joined
import Derived.SevenTiedAt
import Derived.WalkKit
import Derived.ProofKit
import Derived.OpenShut
import Derived.ShutString
import Derived.ChangeOld
import Derived.Below
import Derived.SizedLaws
set_option maxRecDepth 100000
namespace Go.Proofs.YtacaelfdmlegdaaGreatDoor.fnExactRelabelAll
open Go.ChangeShapes Go.WideShapes Go.ChangeAt Go.RowKit Go.Proofs.YtacaelfdmlegdaaGreatDoor.Op Go.Proofs.YtacaelfdmlegdaaGreatDoor.WFFnExactRelabelAll
open Go.ChangeMaps (open_string shut_string)
open Go.Proofs.YtacaelfdmlegdaaGreatDoorW.PrintWords (Kd)
open Go.Proofs.YtacaelfdmlegdaaGreatDoor.Pr
set_option linter.unusedVariables false
theorem own : ownKnob Tryz.prog.godebug = none:=by kernel_rfl
theorem laidOut : laidOutB Tryz.prog = true:=by kernel_rfl
theorem opens_i64 {P : Program} {t : Nat} (ht : P.underlying t = some (.int .i64)) (hc : P.cellsOf t = 1) : Opens P t (Kd.int .i64) I64:=(opens_int ht hc).mono (fun a h => by simp [Lit.wf,IntKind.min,IntKind.max,IntKind.bits,IntKind.signed] at h;exact h)
theorem opens_u8 {P : Program} {t : Nat} (ht : P.underlying t = some (.int .u8)) (hc : P.cellsOf t = 1) : Opens P t (Kd.int .u8) U8:=(opens_int ht hc).mono (fun a h => by simp [Lit.wf,IntKind.min,IntKind.max,IntKind.bits,IntKind.signed] at h;exact ⟨by omega,by omega⟩)
theorem o49 : Opens Tryz.prog 49 k49 wf49:=Opens.mono (opens_struct (fun x => ⟨x.1,x.2⟩) (fun _ => rfl) Tryz.underlying49 (by kernel_rfl) (fo_cons rfl (opens_string Tryz.underlying9 (by kernel_rfl)) (fo_one rfl (opens_string Tryz.underlying9 (by kernel_rfl))))) (fun _ h => h)
theorem o25 : Opens Tryz.prog 25 k25 wf25:=Opens.mono (opens_struct (fun x => ⟨x.1,x.2.1,x.2.2.1,x.2.2.2.1,x.2.2.2.2.1,x.2.2.2.2.2.1,x.2.2.2.2.2.2⟩) (fun _ => rfl) Tryz.underlying25 (by kernel_rfl) (fo_cons rfl (opens_i64 Tryz.underlying3 (by kernel_rfl)) (fo_cons rfl (opens_slice Tryz.underlying23 (by kernel_rfl) (opens_string Tryz.underlying9 (by kernel_rfl))) (fo_cons rfl (opens_string Tryz.underlying9 (by kernel_rfl)) (fo_cons rfl (opens_string Tryz.underlying9 (by kernel_rfl)) (fo_cons rfl (opens_string Tryz.underlying9 (by kernel_rfl)) (fo_cons rfl (opens_string Tryz.underlying9 (by kernel_rfl)) (fo_one rfl (opens_i64 Tryz.underlying3 (by kernel_rfl)))))))))) (fun _ h => h)
theorem tab1 {W : World} (h : laidMetH Tryz.prog Rows.fnExactRelabelAllRow.laid W) : Tg1 W:=by
  rw [MakeChecks.laidMetH_plain _ _ _ (by kernel_rfl)] at h
  obtain ⟨ps,⟨_,_,_,_,_,_,_,_,_,_,⟨_,_,_,_,_,_,_,_,_,_,⟨g,t,cs,fuel,p_,q_,hg,ht,hv,hd,_,_⟩,_⟩,_⟩,_,_⟩:=h
  obtain rfl:=Option.some.inj ((show Tryz.prog.globalNamed "internal/strconv.uint64pow10" = some 1 by kernel_rfl).symm.trans hg)
  obtain rfl:=Option.some.inj ((show (Tryz.prog.globals[1]?).map (·.type) = some 125 by kernel_rfl).symm.trans ht)
  have hd2 : DataW.trod _ Tryz.prog W 0 _ false fuel 125 cs.toList = some (Lib.tabData .u64 Lib.pow10Tab,p_):=hd
  refine ⟨?_⟩
  unfold Lib.TabIs
  rw [hv,← Lib.cells_of_tab Tryz.underlying125 Tryz.underlying85 (by kernel_rfl) (by kernel_rfl) hd2]
theorem lifted (os : Os) (started : os.Started) (H : Type) (enc : TypeId × Value → H) :
    ReturnsInHanded {} Tryz.checked os 4 .any (fun w args => (Rows.fnExactRelabelAllSpec.pre enc Tryz.prog Tryz.f4 Rows.fnExactRelabelAllRow.domain false w args ∧ laidMetH Tryz.prog Rows.fnExactRelabelAllRow.laid w) ∧ sizedMet enc Tryz.prog Tryz.f4 (OpenSpec.ofChange Rows.fnExactRelabelAllSpec) false w args) (Rows.fnExactRelabelAllSpec.post enc Tryz.prog Tryz.f4 false true false false):=by
  refine returnsInHanded_of_change_and (C:=Tryz.checked) (X:=fun w _ => laidMetH Tryz.prog Rows.fnExactRelabelAllRow.laid w) (fun _ _ _ hh h => h.of_heap hh) own started (by kernel_rfl) Tryz.func4
    (ChangeSpec.witness_shaped (enc:=enc) (C:=Tryz.checked) (os:=os) (X:=fun w _ => laidMetH Tryz.prog Rows.fnExactRelabelAllRow.laid w) false (World.laidAll Tryz.prog os Rows.fnExactRelabelAllRow.laid) #[.slice none 0 0,.slice none 0 0] 8 (World.laidAll_os _ _ _)
      (World.shaped_of_ZipB (by kernel_rfl) (by kernel_rfl)) (by kernel_rfl) (by kernel_rfl) (by kernel_rfl)
      (by rw [MakeChecks.laidMetH_plain _ _ _ (by kernel_rfl)];exact laidMet_laidAll _ (by kernel_rfl) (by kernel_rfl))) ?_
  intro W base args ds gs before hval0 hW hcnd hsz0 hL _
  have hval : ∀ (j : Nat) t v,Tryz.f4.params[j]? = some t → args[j]? = some v → Value.okWide Tryz.prog W .any base t v:=hval0
  have hW':=hW
  obtain ⟨p,q,hA0,hV,rfl,hfz,hnd⟩:=hW
  have hA : DataW.TrodAll enc Tryz.prog W 0 (fun _ => true) true Tryz.f4.params.toList args.toList ds p:=hA0
  rw [Tryz.params4] at hA hval
  obtain ⟨v0,vs0,d0,ds0,p0,q0,hargs,rfl,rfl,h0,r0⟩:=trodAll_cons hA
  obtain ⟨v1,vs1,d1,ds1,p1,q1,rfl,rfl,rfl,h1,r1⟩:=trodAll_cons r0
  obtain ⟨rfl,rfl,rfl⟩:=trodAll_nil r1
  obtain rfl : args = #[v0,v1]:=by cases args;simp_all
  obtain ⟨rfl,rfl⟩:=trodVars_none hV
  have k0:=h0
  have lt0 : ∀ x ∈ p0,x.block < W.heap.size:=by obtain ⟨m,hm⟩:=k0;exact DataW.trod_lt m _ _ _ hm
  obtain ⟨A0,c0,l0,rfl,hc0,hr0,w0⟩:=arg_slice (okWide_slice Tryz.underlying22 (hval 0 22 v0 rfl rfl)) (opens_slice Tryz.underlying22 (by kernel_rfl) o49) h0
  have k1:=h1
  have lt1 : ∀ x ∈ p1,x.block < W.heap.size:=by obtain ⟨m,hm⟩:=k1;exact DataW.trod_lt m _ _ _ hm
  obtain ⟨A1,c1,l1,rfl,hc1,hr1,w1⟩:=arg_slice (okWide_slice Tryz.underlying39 (hval 1 39 v1 rfl rfl)) (opens_slice Tryz.underlying39 (by kernel_rfl) o25) h1
  clear hA0 hval0 hsz0
  obtain ⟨k,h⟩:=PuFnExactRelabelAll.pure _ _ w0 w1
  refine Calls.mono (laws_FnExactRelabelAll.calls (w:=W) (hr0:=hr0) (hc0:=hc0) (hr1:=hr1) (hc1:=hc1) (hT1:=tab1 hL) (h:=h)) (fun e W' hp => ?_)
  obtain ⟨he,bel0⟩:=hp
  have bel : Below W.heap.size W W':=bel0
  subst he
  exact ⟨_,rfl,_,_,_,[],_,[],hW',trodAll_mk1 (shut_bool Tryz.underlying4 _),(trodAll_cons_mk (Below.trod laidOut (by kernel_rfl) (of_decide_eq_true (by kernel_rfl)) k0 bel lt0) (trodAll_cons_mk (Below.trod laidOut (by kernel_rfl) (of_decide_eq_true (by kernel_rfl)) k1 bel lt1) trodAll_mk0)),rfl,bel.frame _,fun h => by cases h⟩
theorem over : Rows.fnExactRelabelAllRow.holds Tryz.pinned (OpenSpec.ofChange Rows.fnExactRelabelAllSpec) :=
  OpenClaim.holds_of_wide 4 Tryz.f4 rfl rfl rfl rfl rfl rfl rfl ⟨rfl,rfl,rfl,rfl,rfl⟩ rfl rfl rfl rfl rfl (by kernel_rfl) Tryz.func4 (by kernel_rfl)
    (of_decide_eq_true (by kernel_rfl)) (by unfold Func.isWrapper;first|(rw [if_pos (by decide +kernel)];kernel_rfl)|(rw [if_neg (by decide +kernel)];exact ⟨rfl,rfl⟩))
    (fun os started H enc _ => lifted os started H enc)
end Go.Proofs.YtacaelfdmlegdaaGreatDoor.fnExactRelabelAll
namespace Go.Proofs.YtacaelfdmlegdaaGreatDoor
theorem fnExactRelabelAll_holds : Rows.FnExactRelabelAllSaid:=fnExactRelabelAll.over
theorem fnExactRelabelAllCard_holds : Rows.FnExactRelabelAllCardSaid :=
  Claim7.holds_tied_plain_at .later [] [.data,.data,.data] true (true, "02d27cdbc9bec5cf7e72bbf86567d70061d9553fa633c868b961d504907f318b") false
    fnExactRelabelAll_holds (fun _ h => by cases h) (by kernel_rfl) (fun _ h => by cases h) fnExactRelabelAll_row_tie rfl ⟨rfl,rfl⟩ (by kernel_rfl) rfl
    (fun f fn hf hfn => by
      obtain rfl : f = 4:=Option.some.inj ((show Tryz.prog.funcNamed "loop.example/g00039/laws.FnExactRelabelAll" = some 4 by kernel_rfl).symm.trans hf) |>.symm
      obtain rfl : fn = Tryz.f4:=(Option.some.inj (Tryz.func4.symm.trans hfn)).symm
      exact ⟨by kernel_rfl,fun j t ht => by
        rw [Tryz.params4] at ht
        have hm : t ∈ [22,39]:=by simpa using Array.mem_of_getElem? ht
        have hall : ([22,39].all fun u => !Tryz.prog.wantsStandIn u) = true:=by kernel_rfl
        exact (show Tryz.prog.wantsStandIn t = false by simpa using List.all_eq_true.1 hall t hm)⟩)
    (by kernel_rfl)
end Go.Proofs.YtacaelfdmlegdaaGreatDoor
