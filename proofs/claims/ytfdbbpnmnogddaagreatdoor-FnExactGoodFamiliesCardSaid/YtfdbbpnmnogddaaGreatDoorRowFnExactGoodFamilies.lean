/- The law FnExactGoodFamilies holds of the given program at every input: the row as it is given, with no condition of ours; out of the printed walk and the plain statement. -/
import Derived.Test.YtfdbbpnmnogddaaGreatDoorRows
import Derived.Test.YtfdbbpnmnogddaaGreatDoorWFFnExactGoodFamilies
import Derived.Test.YtfdbbpnmnogddaaGreatDoorPuFnExactGoodFamilies
import Derived.Test.YtfdbbpnmnogddaaGreatDoorOp
import Derived.Test.YtfdbbpnmnogddaaGreatDoorTie
import Derived.Test.YtfdbbpnmnogddaaGreatDoorCards
import Derived.LaidMore
import Derived.Lay
import Derived.OpenVars
import Derived.Stop.Joined
import Derived.Stop.LaidErr
import Derived.SevenTiedAt
import Derived.WalkKit
import Derived.ProofKit
import Derived.OpenShut
import Derived.ShutString
import Derived.ChangeOld
import Derived.Below
import Derived.SizedLaws
set_option maxRecDepth 100000
namespace Go.Proofs.YtfdbbpnmnogddaaGreatDoor.fnExactGoodFamilies
open Go.ChangeShapes Go.WideShapes Go.ChangeAt Go.RowKit Go.Proofs.YtfdbbpnmnogddaaGreatDoor.Op Go.Proofs.YtfdbbpnmnogddaaGreatDoor.WFFnExactGoodFamilies
open Go.ChangeMaps (open_string shut_string)
open Go.Proofs.YtfdbbpnmnogddaaGreatDoorW.PrintWords (Kd)
open Go.Proofs.YtfdbbpnmnogddaaGreatDoor.Pr
set_option linter.unusedVariables false
theorem own:ownKnob Tryz.prog.godebug=none:=by kernel_rfl
theorem laidOut:laidOutB Tryz.prog=true:=by kernel_rfl
theorem opens_i64 {P:Program}{t:Nat}(ht:P.underlying t=some (.int .i64))(hc:P.cellsOf t=1):Opens P t (Kd.int .i64) I64:=(opens_int ht hc).mono (fun a h=>by simp [Lit.wf,IntKind.min,IntKind.max,IntKind.bits,IntKind.signed] at h;exact h)
theorem opens_u8 {P:Program}{t:Nat}(ht:P.underlying t=some (.int .u8))(hc:P.cellsOf t=1):Opens P t (Kd.int .u8) U8:=(opens_int ht hc).mono (fun a h=>by simp [Lit.wf,IntKind.min,IntKind.max,IntKind.bits,IntKind.signed] at h;exact ⟨by omega,by omega⟩)
theorem o102:Opens Tryz.prog 102 k102 wf102:=Opens.mono (opens_struct (fun x=>⟨x.1,x.2⟩) (fun _=>rfl) Tryz.underlying102 (by kernel_rfl) (fo_cons rfl (opens_string Tryz.underlying9 (by kernel_rfl)) (fo_one rfl (opens_string Tryz.underlying9 (by kernel_rfl))))) (fun _ h=>h)
theorem o61:Opens Tryz.prog 61 k61 wf61:=Opens.mono (opens_struct (fun x=>⟨x.1,x.2.1,x.2.2⟩) (fun _=>rfl) Tryz.underlying61 (by kernel_rfl) (fo_cons rfl (opens_bool Tryz.underlying4 (by kernel_rfl)) (fo_cons rfl (opens_slice Tryz.underlying59 (by kernel_rfl) o102) (fo_one rfl (opens_i64 Tryz.underlying3 (by kernel_rfl)))))) (fun _ h=>h)
theorem o63:Opens Tryz.prog 63 k63 wf63:=Opens.mono (opens_struct (fun x=>⟨x.1,x.2.1,x.2.2.1,x.2.2.2.1,x.2.2.2.2.1,x.2.2.2.2.2⟩) (fun _=>rfl) Tryz.underlying63 (by kernel_rfl) (fo_cons rfl (opens_string Tryz.underlying9 (by kernel_rfl)) (fo_cons rfl (opens_slice Tryz.underlying59 (by kernel_rfl) o102) (fo_cons rfl (opens_i64 Tryz.underlying3 (by kernel_rfl)) (fo_cons rfl (opens_bool Tryz.underlying4 (by kernel_rfl)) (fo_cons rfl (opens_i64 Tryz.underlying3 (by kernel_rfl)) (fo_one rfl o61))))))) (fun _ h=>h)
theorem o24:Opens Tryz.prog 24 k24 wf24:=Opens.mono (opens_struct (fun x=>⟨x.1,x.2.1,x.2.2.1,x.2.2.2⟩) (fun _=>rfl) Tryz.underlying24 (by kernel_rfl) (fo_cons rfl (opens_string Tryz.underlying9 (by kernel_rfl)) (fo_cons rfl (opens_i64 Tryz.underlying3 (by kernel_rfl)) (fo_cons rfl (opens_string Tryz.underlying9 (by kernel_rfl)) (fo_one rfl (opens_slice Tryz.underlying22 (by kernel_rfl) o63)))))) (fun _ h=>h)
theorem tab1 {W:World}(h:laidMetH Tryz.prog Rows.fnExactGoodFamiliesRow.laid W):Tg1 W:=by
  rw [MakeChecks.laidMetH_plain _ _ _ (by kernel_rfl)] at h
  have hrow:∀ u,Tryz.prog.typeName? 3 u=some "*errors.errorString" → u=134:=fun u h_=>typeName_ptr_named (nm := "errors.errorString") (by rw [show "*" ++ "errors.errorString" = "*errors.errorString" from by decide];kernel_rfl) (by kernel_rfl) (by decide) u (by rw [show "*" ++ "errors.errorString" = "*errors.errorString" from by decide];exact h_)
  obtain ⟨a0,s0,hv0,-,-,-⟩:=laid_sentinel h.tail.tail.tail.tail (show Tryz.prog.globalNamed "strconv.ErrSyntax" = some 1 by kernel_rfl) (show (Tryz.prog.globals[1]?).map (·.type)=some 95 by kernel_rfl) Tryz.underlying95 hrow Tryz.underlying134 Tryz.underlying136 rfl rfl Tryz.underlying9 (by kernel_rfl) (by kernel_rfl)
  exact ⟨⟨_,_,by have h0:=World.var?_cell (show Tryz.prog.globalNamed "strconv.ErrSyntax" = some 1 by kernel_rfl) hv0 0;simpa using h0⟩⟩
theorem tab2 {W:World}(h:laidMetH Tryz.prog Rows.fnExactGoodFamiliesRow.laid W):Tg2 W:=by
  rw [MakeChecks.laidMetH_plain _ _ _ (by kernel_rfl)] at h
  have hrow:∀ u,Tryz.prog.typeName? 3 u=some "*errors.errorString" → u=134:=fun u h_=>typeName_ptr_named (nm := "errors.errorString") (by rw [show "*" ++ "errors.errorString" = "*errors.errorString" from by decide];kernel_rfl) (by kernel_rfl) (by decide) u (by rw [show "*" ++ "errors.errorString" = "*errors.errorString" from by decide];exact h_)
  obtain ⟨a0,s0,hv0,-,-,-⟩:=laid_sentinel h.tail.tail.tail (show Tryz.prog.globalNamed "strconv.ErrRange" = some 2 by kernel_rfl) (show (Tryz.prog.globals[2]?).map (·.type)=some 95 by kernel_rfl) Tryz.underlying95 hrow Tryz.underlying134 Tryz.underlying136 rfl rfl Tryz.underlying9 (by kernel_rfl) (by kernel_rfl)
  exact ⟨⟨_,_,by have h0:=World.var?_cell (show Tryz.prog.globalNamed "strconv.ErrRange" = some 2 by kernel_rfl) hv0 0;simpa using h0⟩⟩
theorem tab3 {W:World}(h:laidMetH Tryz.prog Rows.fnExactGoodFamiliesRow.laid W):Tg3 W:=by
  rw [MakeChecks.laidMetH_plain _ _ _ (by kernel_rfl)] at h
  obtain ⟨ps,⟨_,_,_,_,_,_,_,_,_,_,⟨_,_,_,_,_,_,_,_,_,_,⟨g,t,cs,fuel,p_,q_,hg,ht,hv,hd,_,_⟩,_⟩,_⟩,_,_⟩:=h
  obtain rfl:=Option.some.inj ((show Tryz.prog.globalNamed "internal/strconv.uint64pow10" = some 3 by kernel_rfl).symm.trans hg)
  obtain rfl:=Option.some.inj ((show (Tryz.prog.globals[3]?).map (·.type)=some 139 by kernel_rfl).symm.trans ht)
  have hd2:DataW.trod _ Tryz.prog W 0 _ false fuel 139 cs.toList=some (Lib.tabData .u64 Lib.pow10Tab,p_):=hd
  refine ⟨?_⟩
  unfold Lib.TabIs
  rw [hv,← Lib.cells_of_tab Tryz.underlying139 Tryz.underlying121 (by kernel_rfl) (by kernel_rfl) hd2]
theorem lifted (os:Os)(started:os.Started)(H:Type)(enc:TypeId × Value->H) :
    ReturnsInHanded {} Tryz.checked os 4 .any (fun w args=>(Rows.fnExactGoodFamiliesSpec.pre enc Tryz.prog Tryz.f4 Rows.fnExactGoodFamiliesRow.domain false w args/\laidMetH Tryz.prog Rows.fnExactGoodFamiliesRow.laid w)/\sizedMet enc Tryz.prog Tryz.f4 (OpenSpec.ofChange Rows.fnExactGoodFamiliesSpec) false w args) (Rows.fnExactGoodFamiliesSpec.post enc Tryz.prog Tryz.f4 false true false false):=by
  refine returnsInHanded_of_change_and (C:=Tryz.checked) (X:=fun w _=>laidMetH Tryz.prog Rows.fnExactGoodFamiliesRow.laid w) (fun _ _ _ hh h=>h.of_heap hh) own started (by kernel_rfl) Tryz.func4
    (ChangeSpec.witness_shaped (enc:=enc) (C:=Tryz.checked) (os:=os) (X:=fun w _=>laidMetH Tryz.prog Rows.fnExactGoodFamiliesRow.laid w) false (World.laidAll Tryz.prog os Rows.fnExactGoodFamiliesRow.laid) #[.slice none 0 0] 8 (World.laidAll_os _ _ _)
      (World.shaped_of_ZipB (by kernel_rfl) (by kernel_rfl)) (by kernel_rfl) (by kernel_rfl) (by kernel_rfl)
      (by rw [MakeChecks.laidMetH_plain _ _ _ (by kernel_rfl)];exact laidMet_laidAll _ (by kernel_rfl) (by kernel_rfl))) ?_
  intro W base args ds gs before hval0 hW hcnd hsz0 hL _
  have hval:∀ (j:Nat) t v,Tryz.f4.params[j]? = some t->args[j]? = some v->Value.okWide Tryz.prog W .any base t v:=hval0
  have hW':=hW
  obtain ⟨p,q,hA0,hV,rfl,hfz,hnd⟩:=hW
  have hA:DataW.TrodAll enc Tryz.prog W 0 (fun _=>true) true Tryz.f4.params.toList args.toList ds p:=hA0
  rw [Tryz.params4] at hA hval
  obtain ⟨v0,vs0,d0,ds0,p0,q0,hargs,rfl,rfl,h0,r0⟩:=trodAll_cons hA
  obtain ⟨rfl,rfl,rfl⟩:=trodAll_nil r0
  obtain rfl:args=#[v0]:=by cases args;simp_all
  obtain ⟨rfl,rfl⟩:=trodVars_none hV
  have k0:=h0
  have lt0:∀ x∈p0,x.block<W.heap.size:=by obtain ⟨m,hm⟩:=k0;exact DataW.trod_lt m _ _ _ hm
  obtain ⟨A0,c0,l0,rfl,hc0,hr0,w0⟩:=arg_slice (okWide_slice Tryz.underlying33 (hval 0 33 v0 rfl rfl)) (opens_slice Tryz.underlying33 (by kernel_rfl) o24) h0
  clear hA0 hval0 hsz0
  obtain ⟨k,h⟩:=PuFnExactGoodFamilies.pure _ w0
  refine Calls.mono (laws_FnExactGoodFamilies.calls (w:=W) (hr0:=hr0) (hc0:=hc0) (hT1:=tab1 hL) (hT2:=tab2 hL) (hT3:=tab3 hL) (h:=h)) (fun e W' hp => ?_)
  obtain ⟨he,bel0⟩:=hp
  have bel:Below W.heap.size W W':=bel0
  subst he
  exact ⟨_,rfl,_,_,_,[],_,[],hW',trodAll_mk1 (shut_bool Tryz.underlying4 _),(trodAll_cons_mk (Below.trod laidOut (by kernel_rfl) (of_decide_eq_true (by kernel_rfl)) k0 bel lt0) trodAll_mk0),rfl,bel.frame _,fun h=>by cases h⟩
theorem over:Rows.fnExactGoodFamiliesRow.holds Tryz.pinned (OpenSpec.ofChange Rows.fnExactGoodFamiliesSpec) :=
  OpenClaim.holds_of_wide 4 Tryz.f4 rfl rfl rfl rfl rfl rfl rfl ⟨rfl,rfl,rfl,rfl,rfl⟩ rfl rfl rfl rfl rfl (by kernel_rfl) Tryz.func4 (by kernel_rfl)
    (of_decide_eq_true (by kernel_rfl)) (by unfold Func.isWrapper;first|(rw [if_pos (by decide +kernel)];kernel_rfl)|(rw [if_neg (by decide +kernel)];exact ⟨rfl,rfl⟩))
    (fun os started H enc _=>lifted os started H enc)
end Go.Proofs.YtfdbbpnmnogddaaGreatDoor.fnExactGoodFamilies
namespace Go.Proofs.YtfdbbpnmnogddaaGreatDoor
theorem fnExactGoodFamilies_holds:Rows.FnExactGoodFamiliesSaid:=fnExactGoodFamilies.over
theorem fnExactGoodFamiliesCard_holds:Rows.FnExactGoodFamiliesCardSaid :=
  Claim7.holds_tied_plain_at .later [] [.data,.data,.data,.sentinel,.sentinel] true (true, "e5d9b49b8042c2b626c0a040714e50866385170eeaa448df11d9655627ef5de1") true
    fnExactGoodFamilies_holds (fun _ h=>by cases h) (by kernel_rfl) (fun _ h=>by cases h) fnExactGoodFamilies_row_tie rfl ⟨rfl,rfl⟩ (by kernel_rfl) rfl
    (fun f fn hf hfn=>by
      obtain rfl:f=4:=Option.some.inj ((show Tryz.prog.funcNamed "loop.example/g00039/laws.FnExactGoodFamilies" = some 4 by kernel_rfl).symm.trans hf) |>.symm
      obtain rfl:fn=Tryz.f4:=(Option.some.inj (Tryz.func4.symm.trans hfn)).symm
      exact ⟨by kernel_rfl,fun j t ht=>by
        rw [Tryz.params4] at ht
        have hm:t∈[33]:=by simpa using Array.mem_of_getElem? ht
        have hall:([33].all fun u => !Tryz.prog.wantsStandIn u)=true:=by kernel_rfl
        exact (show Tryz.prog.wantsStandIn t=false by simpa using List.all_eq_true.1 hall t hm)⟩)
    (by kernel_rfl)
end Go.Proofs.YtfdbbpnmnogddaaGreatDoor
