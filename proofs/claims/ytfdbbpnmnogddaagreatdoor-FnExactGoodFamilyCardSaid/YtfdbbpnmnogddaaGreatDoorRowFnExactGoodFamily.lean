/- The law FnExactGoodFamily holds of the given program at every input: the row as it is given, with no condition of ours; out of the printed walk and the plain statement. -/
import Derived.Test.YtfdbbpnmnogddaaGreatDoorRows
import Derived.Test.YtfdbbpnmnogddaaGreatDoorWFFnExactGoodFamily
import Derived.Test.YtfdbbpnmnogddaaGreatDoorPuFnExactGoodFamily
import Derived.Test.YtfdbbpnmnogddaaGreatDoorOp
import Derived.Test.YtfdbbpnmnogddaaGreatDoorTie
import Derived.Test.YtfdbbpnmnogddaaGreatDoorCards
import Derived.LaidMore
import Derived.Lay
import Derived.OpenVars
import Derived.Stop.Joined
import Derived.Stop.LaidErr
import Derived.SevenTiedAt
import Derived.WalkKit
import Derived.ProofKit
import Derived.OpenShut
import Derived.ShutString
import Derived.ChangeOld
import Derived.Below
import Derived.SizedLaws
set_option maxRecDepth 100000
namespace Go.Proofs.YtfdbbpnmnogddaaGreatDoor.fnExactGoodFamily
open Go.ChangeShapes Go.WideShapes Go.ChangeAt Go.RowKit Go.Proofs.YtfdbbpnmnogddaaGreatDoor.Op Go.Proofs.YtfdbbpnmnogddaaGreatDoor.WFFnExactGoodFamily
open Go.ChangeMaps (open_string shut_string)
open Go.Proofs.YtfdbbpnmnogddaaGreatDoorW.PrintWords (Kd)
open Go.Proofs.YtfdbbpnmnogddaaGreatDoor.Pr
set_option linter.unusedVariables false
theorem own : ownKnob Tryz.prog.godebug = none:=by kernel_rfl
theorem laidOut : laidOutB Tryz.prog = true:=by kernel_rfl
theorem opens_i64 {P : Program} {t : Nat} (ht : P.underlying t = some (.int .i64)) (hc : P.cellsOf t = 1) : Opens P t (Kd.int .i64) I64:=(opens_int ht hc).mono (fun a h => by simp [Lit.wf,IntKind.min,IntKind.max,IntKind.bits,IntKind.signed] at h;exact h)
theorem opens_u8 {P : Program} {t : Nat} (ht : P.underlying t = some (.int .u8)) (hc : P.cellsOf t = 1) : Opens P t (Kd.int .u8) U8:=(opens_int ht hc).mono (fun a h => by simp [Lit.wf,IntKind.min,IntKind.max,IntKind.bits,IntKind.signed] at h;exact ⟨by omega,by omega⟩)
theorem o102 : Opens Tryz.prog 102 k102 wf102:=Opens.mono (opens_struct (fun x => ⟨x.1,x.2⟩) (fun _ => rfl) Tryz.underlying102 (by kernel_rfl) (fo_cons rfl (opens_string Tryz.underlying9 (by kernel_rfl)) (fo_one rfl (opens_string Tryz.underlying9 (by kernel_rfl))))) (fun _ h => h)
theorem o61 : Opens Tryz.prog 61 k61 wf61:=Opens.mono (opens_struct (fun x => ⟨x.1,x.2.1,x.2.2⟩) (fun _ => rfl) Tryz.underlying61 (by kernel_rfl) (fo_cons rfl (opens_bool Tryz.underlying4 (by kernel_rfl)) (fo_cons rfl (opens_slice Tryz.underlying59 (by kernel_rfl) o102) (fo_one rfl (opens_i64 Tryz.underlying3 (by kernel_rfl)))))) (fun _ h => h)
theorem o63 : Opens Tryz.prog 63 k63 wf63:=Opens.mono (opens_struct (fun x => ⟨x.1,x.2.1,x.2.2.1,x.2.2.2.1,x.2.2.2.2.1,x.2.2.2.2.2⟩) (fun _ => rfl) Tryz.underlying63 (by kernel_rfl) (fo_cons rfl (opens_string Tryz.underlying9 (by kernel_rfl)) (fo_cons rfl (opens_slice Tryz.underlying59 (by kernel_rfl) o102) (fo_cons rfl (opens_i64 Tryz.underlying3 (by kernel_rfl)) (fo_cons rfl (opens_bool Tryz.underlying4 (by kernel_rfl)) (fo_cons rfl (opens_i64 Tryz.underlying3 (by kernel_rfl)) (fo_one rfl o61))))))) (fun _ h => h)
theorem tab1 {W : World} (h : laidMetH Tryz.prog Rows.fnExactGoodFamilyRow.laid W) : Tg1 W:=by
  rw [MakeChecks.laidMetH_plain _ _ _ (by kernel_rfl)] at h
  have hrow : ∀ u,Tryz.prog.typeName? 3 u = some "*errors.errorString" → u = 134:=fun u h_ => typeName_ptr_named (nm := "errors.errorString") (by rw [show "*" ++ "errors.errorString" = "*errors.errorString" from by decide];kernel_rfl) (by kernel_rfl) (by decide) u (by rw [show "*" ++ "errors.errorString" = "*errors.errorString" from by decide];exact h_)
  obtain ⟨a0,s0,hv0,-,-,-⟩:=laid_sentinel h.tail.tail.tail.tail (show Tryz.prog.globalNamed "strconv.ErrSyntax" = some 1 by kernel_rfl) (show (Tryz.prog.globals[1]?).map (·.type) = some 95 by kernel_rfl) Tryz.underlying95 hrow Tryz.underlying134 Tryz.underlying136 rfl rfl Tryz.underlying9 (by kernel_rfl) (by kernel_rfl)
  exact ⟨⟨_,_,by have h0:=World.var?_cell (show Tryz.prog.globalNamed "strconv.ErrSyntax" = some 1 by kernel_rfl) hv0 0;simpa using h0⟩⟩
theorem tab2 {W : World} (h : laidMetH Tryz.prog Rows.fnExactGoodFamilyRow.laid W) : Tg2 W:=by
  rw [MakeChecks.laidMetH_plain _ _ _ (by kernel_rfl)] at h
  have hrow : ∀ u,Tryz.prog.typeName? 3 u = some "*errors.errorString" → u = 134:=fun u h_ => typeName_ptr_named (nm := "errors.errorString") (by rw [show "*" ++ "errors.errorString" = "*errors.errorString" from by decide];kernel_rfl) (by kernel_rfl) (by decide) u (by rw [show "*" ++ "errors.errorString" = "*errors.errorString" from by decide];exact h_)
  obtain ⟨a0,s0,hv0,-,-,-⟩:=laid_sentinel h.tail.tail.tail (show Tryz.prog.globalNamed "strconv.ErrRange" = some 2 by kernel_rfl) (show (Tryz.prog.globals[2]?).map (·.type) = some 95 by kernel_rfl) Tryz.underlying95 hrow Tryz.underlying134 Tryz.underlying136 rfl rfl Tryz.underlying9 (by kernel_rfl) (by kernel_rfl)
  exact ⟨⟨_,_,by have h0:=World.var?_cell (show Tryz.prog.globalNamed "strconv.ErrRange" = some 2 by kernel_rfl) hv0 0;simpa using h0⟩⟩
theorem tab3 {W : World} (h : laidMetH Tryz.prog Rows.fnExactGoodFamilyRow.laid W) : Tg3 W:=by
  rw [MakeChecks.laidMetH_plain _ _ _ (by kernel_rfl)] at h
  obtain ⟨ps,⟨_,_,_,_,_,_,_,_,_,_,⟨_,_,_,_,_,_,_,_,_,_,⟨g,t,cs,fuel,p_,q_,hg,ht,hv,hd,_,_⟩,_⟩,_⟩,_,_⟩:=h
  obtain rfl:=Option.some.inj ((show Tryz.prog.globalNamed "internal/strconv.uint64pow10" = some 3 by kernel_rfl).symm.trans hg)
  obtain rfl:=Option.some.inj ((show (Tryz.prog.globals[3]?).map (·.type) = some 139 by kernel_rfl).symm.trans ht)
  have hd2 : DataW.trod _ Tryz.prog W 0 _ false fuel 139 cs.toList = some (Lib.tabData .u64 Lib.pow10Tab,p_):=hd
  refine ⟨?_⟩
  unfold Lib.TabIs
  rw [hv,← Lib.cells_of_tab Tryz.underlying139 Tryz.underlying121 (by kernel_rfl) (by kernel_rfl) hd2]
theorem lifted (os : Os) (started : os.Started) (H : Type) (enc : TypeId × Value → H) :
    ReturnsInHanded {} Tryz.checked os 3 .any (fun w args => (Rows.fnExactGoodFamilySpec.pre enc Tryz.prog Tryz.f3 Rows.fnExactGoodFamilyRow.domain false w args ∧ laidMetH Tryz.prog Rows.fnExactGoodFamilyRow.laid w) ∧ sizedMet enc Tryz.prog Tryz.f3 (OpenSpec.ofChange Rows.fnExactGoodFamilySpec) false w args) (Rows.fnExactGoodFamilySpec.post enc Tryz.prog Tryz.f3 false true false false):=by
  refine returnsInHanded_of_change_and (C:=Tryz.checked) (X:=fun w _ => laidMetH Tryz.prog Rows.fnExactGoodFamilyRow.laid w) (fun _ _ _ hh h => h.of_heap hh) own started (by kernel_rfl) Tryz.func3
    (ChangeSpec.witness_shaped (enc:=enc) (C:=Tryz.checked) (os:=os) (X:=fun w _ => laidMetH Tryz.prog Rows.fnExactGoodFamilyRow.laid w) false (World.laidAll Tryz.prog os Rows.fnExactGoodFamilyRow.laid) #[.agg #[.string ByteArray.empty,.int .i64 0,.string ByteArray.empty,.slice none 0 0]] 8 (World.laidAll_os _ _ _)
      (World.shaped_of_ZipB (by kernel_rfl) (by kernel_rfl)) (by kernel_rfl) (by kernel_rfl) (by kernel_rfl)
      (by rw [MakeChecks.laidMetH_plain _ _ _ (by kernel_rfl)];exact laidMet_laidAll _ (by kernel_rfl) (by kernel_rfl))) ?_
  intro W base args ds gs before hval0 hW hcnd hsz0 hL _
  have hval : ∀ (j : Nat) t v,Tryz.f3.params[j]? = some t → args[j]? = some v → Value.okWide Tryz.prog W .any base t v:=hval0
  have hW':=hW
  obtain ⟨p,q,hA0,hV,rfl,hfz,hnd⟩:=hW
  have hA : DataW.TrodAll enc Tryz.prog W 0 (fun _ => true) true Tryz.f3.params.toList args.toList ds p:=hA0
  rw [Tryz.params3] at hA hval
  obtain ⟨v0,vs0,d0,ds0,p0,q0,hargs,rfl,rfl,h0,r0⟩:=trodAll_cons hA
  obtain ⟨rfl,rfl,rfl⟩:=trodAll_nil r0
  obtain rfl : args = #[v0]:=by cases args;simp_all
  obtain ⟨rfl,rfl⟩:=trodVars_none hV
  have k0:=h0
  have lt0 : ∀ x ∈ p0,x.block < W.heap.size:=by obtain ⟨m,hm⟩:=k0;exact DataW.trod_lt m _ _ _ hm
  have os0:=opens_struct_ Tryz.underlying24 (by kernel_rfl) (fo_cons rfl (opens_string Tryz.underlying9 (by kernel_rfl)) (fo_cons rfl (opens_i64 Tryz.underlying3 (by kernel_rfl)) (fo_cons rfl (opens_string Tryz.underlying9 (by kernel_rfl)) (fo_one rfl (opens_slice Tryz.underlying22 (by kernel_rfl) o63)))))
  obtain ⟨cs0,rfl,hs0⟩:=okWide_struct Tryz.underlying24 (hval 0 24 v0 rfl rfl)
  obtain ⟨⟨y0_0,y0_1,y0_2,y0_3⟩,hk0,⟨w0_0,w0_1,w0_2,w0_3⟩⟩:=arg_agg os0 h0
  obtain ⟨cz0,hcz0⟩ : ∃ z,z = cs0.toList:=⟨_,rfl⟩
  rw [← hcz0] at hk0
  obtain ⟨_,_,rfl,rfl,⟨_,_,rfl,rfl,⟨_,_,rfl,rfl,⟨A0_3,c0_3,rfl,hc0_3,hr0_3⟩⟩⟩⟩:=hk0
  obtain rfl : cs0 = #[.string y0_0,.int .i64 y0_1,.string y0_2,.slice A0_3 y0_3.length c0_3]:=by cases cs0;simp at hcz0;simp [← hcz0]
  clear hA0 hval0 hsz0
  obtain ⟨k,h⟩:=PuFnExactGoodFamily.pure _ _ _ _ w0_0 w0_1 w0_2 w0_3
  refine Calls.mono (laws_FnExactGoodFamily.calls (w:=W) (hr0_3:=hr0_3) (hc0_3:=hc0_3) (hT1:=tab1 hL) (hT2:=tab2 hL) (hT3:=tab3 hL) (h:=h)) (fun e W' hp => ?_)
  obtain ⟨he,bel0⟩:=hp
  have bel : Below W.heap.size W W':=bel0
  subst he
  exact ⟨_,rfl,_,_,_,[],_,[],hW',trodAll_mk1 (shut_bool Tryz.underlying4 _),(trodAll_cons_mk (Below.trod laidOut (by kernel_rfl) (of_decide_eq_true (by kernel_rfl)) k0 bel lt0) trodAll_mk0),rfl,bel.frame _,fun h => by cases h⟩
theorem over : Rows.fnExactGoodFamilyRow.holds Tryz.pinned (OpenSpec.ofChange Rows.fnExactGoodFamilySpec) :=
  OpenClaim.holds_of_wide 3 Tryz.f3 rfl rfl rfl rfl rfl rfl rfl ⟨rfl,rfl,rfl,rfl,rfl⟩ rfl rfl rfl rfl rfl (by kernel_rfl) Tryz.func3 (by kernel_rfl)
    (of_decide_eq_true (by kernel_rfl)) (by unfold Func.isWrapper;first|(rw [if_pos (by decide +kernel)];kernel_rfl)|(rw [if_neg (by decide +kernel)];exact ⟨rfl,rfl⟩))
    (fun os started H enc _ => lifted os started H enc)
end Go.Proofs.YtfdbbpnmnogddaaGreatDoor.fnExactGoodFamily
namespace Go.Proofs.YtfdbbpnmnogddaaGreatDoor
theorem fnExactGoodFamily_holds : Rows.FnExactGoodFamilySaid:=fnExactGoodFamily.over
theorem fnExactGoodFamilyCard_holds : Rows.FnExactGoodFamilyCardSaid :=
  Claim7.holds_tied_plain_at .later [] [.data,.data,.data,.sentinel,.sentinel] true (true, "e5d9b49b8042c2b626c0a040714e50866385170eeaa448df11d9655627ef5de1") true
    fnExactGoodFamily_holds (fun _ h => by cases h) (by kernel_rfl) (fun _ h => by cases h) fnExactGoodFamily_row_tie rfl ⟨rfl,rfl⟩ (by kernel_rfl) rfl
    (fun f fn hf hfn => by
      obtain rfl : f = 3:=Option.some.inj ((show Tryz.prog.funcNamed "loop.example/g00039/laws.FnExactGoodFamily" = some 3 by kernel_rfl).symm.trans hf) |>.symm
      obtain rfl : fn = Tryz.f3:=(Option.some.inj (Tryz.func3.symm.trans hfn)).symm
      exact ⟨by kernel_rfl,fun j t ht => by
        rw [Tryz.params3] at ht
        have hm : t ∈ [24]:=by simpa using Array.mem_of_getElem? ht
        have hall : ([24].all fun u => !Tryz.prog.wantsStandIn u) = true:=by kernel_rfl
        exact (show Tryz.prog.wantsStandIn t = false by simpa using List.all_eq_true.1 hall t hm)⟩)
    (by kernel_rfl)
end Go.Proofs.YtfdbbpnmnogddaaGreatDoor
