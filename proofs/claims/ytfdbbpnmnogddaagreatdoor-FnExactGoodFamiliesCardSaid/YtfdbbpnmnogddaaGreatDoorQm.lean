/- A map from texts to truth values that the call itself makes, told by the row of its keys; each theorem states its own conditions. -/
import Derived.Test.YtfdbbpnmnogddaaGreatDoorPrx0
import Derived.Maps.OwnSet
import Derived.Maps.OwnOps
import Derived.Carry
import Derived.WideKeyArgs2
import Derived.OwnWalk
set_option linter.unusedVariables false
set_option linter.unusedSimpArgs false
namespace Go.Proofs.YtfdbbpnmnogddaaGreatDoor.Pr
open Go Go.Proofs Go.RowKit Go.Maps Go.Proofs.YtfdbbpnmnogddaaGreatDoorW.PrintWords Go.Proofs.YtfdbbpnmnogddaaGreatDoorW.PrintLast Go.Proofs.YtfdbbpnmnogddaaGreatDoorW.PrintMore
def inL (xs:List ByteArray)(s:ByteArray):Bool:=xs.any fun y=>decide (y.data.toList=s.data.toList)
def Qm (P:Program)(K E:TypeId)(w:World)(base:Nat)(ok:Nat->Prop)(v:Value)(xs:List ByteArray):Prop :=
  ∃ (b n:Nat) (D:DataW Unit),v = .map (some b)/\base<=b/\ok b/\n<=xs.length/\w.ownsMap P K (plainElem P E) b n D/\IsMap D ∧
    ∀ s:ByteArray,D.atKey (.string s.data.toList) (.lit (.bool false)) = .lit (.bool (inL xs s))
section
variable {P:Program} {K E base:Nat} {w w1:World} {ok ok':Nat->Prop} {v:Value} {xs:List ByteArray}
theorem Qm_step (h:Qm P K E w base ok v xs)(hk:∀ k,ok k->k<w.heap.size->w1.heap[k]? = w.heap[k]?):Qm P K E w1 base ok v xs:=by
  obtain ⟨b,n,D,hv,hb,ho,hn,⟨es,clock,he,hr⟩,hD⟩:=h
  exact ⟨b,n,D,hv,hb,ho,hn,⟨es,clock,(hk b ho (Array.getElem?_eq_some_iff.1 he).1).trans he,hr⟩,hD⟩
theorem Qm_mono (h:Qm P K E w base ok v xs)(hok:∀ k,ok k->ok' k):Qm P K E w base ok' v xs:=by
  obtain ⟨b,n,D,hv,hb,ho,hr⟩:=h
  exact ⟨b,n,D,hv,hb,hok b ho,hr⟩
theorem Qm_below (h:Qm P K E w base ok v xs)(hb:Below w.heap.size w w1):Qm P K E w1 base ok v xs:=Qm_step h (fun k _ hk=>hb.block k hk)
theorem Qm_far (h:Qm P K E w base ok v xs){p:Addr}(hok:∀ k,ok k->k≠p.block)(u:Value):Qm P K E (w.setCell p u) base ok v xs:=Qm_step h (fun k ho _=>Below.heap_setCell w p u k (hok k ho))
theorem Qm_types (h:Qm P K E w base ok v xs){g t:Nat}{cells:Array Value}(hb:w.heap[g]? = some (.cells cells t (0,0)))(_:True):Qm P K E w base (fun k=>ok k/\k≠g) v xs:=by
  obtain ⟨b,n,D,hv,hbb,ho,hn,⟨es,clock,he,hr⟩,hD⟩:=h
  refine ⟨b,n,D,hv,hbb,⟨ho,?_⟩,hn,⟨es,clock,he,hr⟩,hD⟩
  rintro rfl
  rw [he] at hb
  cases hb
theorem Qm_alloc (h:Qm P K E w base ok v xs)(o:Obj):Qm P K E (w.alloc o) base ok v xs:=Qm_below h (below_alloc (Below.refl _ _) o)
theorem Qm_drew (h:Qm P K E w base ok v xs):Qm P K E w.drew base ok v xs:=Qm_below h (below_drew (Below.refl _ _))
theorem Qm_drewN (h:Qm P K E w base ok v xs)(m:Nat):Qm P K E (w.drewN m) base ok v xs:=Qm_below h (pw_below_drewN (Below.refl _ _) m)
theorem rq_ {p q:Prop}(H:Aside0 p)(h:p->q:=by (intro hv_;(with_reducible repeat (first|apply Qm_alloc|apply Qm_drewN|apply Qm_drew));exact hv_)):q:=h H.out
theorem Qm_made (hb:base<=w.heap.size):Qm P K E (w.alloc (.map #[] 0)) base (fun _=>True) (.map (some w.heap.size)) [] :=
  ⟨w.heap.size,0,.map [],rfl,hb,trivial,Nat.le_refl _,World.ownsMap_made w P K _,isMap_empty,fun s=>by simp [DataW.atKey,inL]⟩
theorem plainBool {x:Value}{z:DataW Unit × List MemPlace}(hE:P.underlying E=some .bool)(h:plainElem P E x=some z):∃ y,x = .bool y/\z=(.lit (.bool y),[]):=by
  unfold plainElem at h
  rw [hE] at h
  cases x <;> simp at h
  exact ⟨_,rfl,h.symm⟩
theorem Qm_look (h:Qm P K E w base ok v xs)(T:Nat)(hT:P.underlying T=some (.map K E))(hK:P.underlying K=some .string)(hE:P.underlying E=some .bool)(hz:(zeroValue E).run P w = .ok (.bool false) w)(s:ByteArray)(hs:s.size<=9223372036854775807) :
    (Instr.lookup T v (.string s) false).run P w = .ok (.bool (inL xs s)) w:=by
  obtain ⟨b,n,D,rfl,_,_,_,ho,_,hD⟩:=h
  obtain ⟨x,ps,hrun,hx⟩:=ho.lookup (string_keyed hK) hT hz (plainElem_bool hE false) (Go.WideMaps.keyOf_string_mk hK hs)
  obtain ⟨y,rfl,hy⟩:=plainBool hE hx
  rw [hrun]
  have h1:=congrArg Prod.fst hy
  rw [show (D.atKey (.string s.data.toList) (.lit (.bool false)),ps).1=D.atKey (.string s.data.toList) (.lit (.bool false)) from rfl,hD s] at h1
  injection h1 with h1
  injection h1 with h1
  rw [h1]
theorem Qm_store {ops:Array Oper}{rest:List Oper}{o:Oper}{a:Act}{Q:Exit->Act->World->Prop}{w0:World}(T:Nat)(hg:o.guard=none)(m x y:Operand)(hop:o.op=Op.mapUpdate T m x y)
    (hT:P.underlying T=some (.map K E)) (hK:P.underlying K=some .string) (hE:P.underlying E=some .bool) (s:ByteArray) (hs:s.size<=9223372036854775807) (hm:a.eval m=v) (hx:a.eval x = .string s) (hy:a.eval y = .bool true)
    (h:Qm P K E w base ok v xs) (hl:xs.length<8796093022208) (HB:Below base w0 w)
    (hk:∀ w1:World,Qm P K E w1 base ok v (xs++[s])->Below base w0 w1->(∀ (g:Nat) cs t z,w.heap[g]? = some (Obj.cells cs t z)->w1.heap[g]? = some (Obj.cells cs t z))->wpList P ops Q rest (a.put o.dst undef) w1) :
    wpList P ops Q (o::rest) a w:=by
  obtain ⟨b,n,D,rfl,hb,ho,hn,hown,hi,hD⟩:=h
  refine wpList_mapUpdate_own w hg m x y T hop K E (string_keyed hK) hT (plainElem P E) b n D hm hown (by unfold maxLen;omega) (.string s) (.bool true) (.string s.data.toList) hx hy (Go.WideMaps.keyOf_string_mk hK hs) (.lit (.bool true)) [] (plainElem_bool hE true) ?_
  intro w1 hown1 hgr
  have hib:b<w.heap.size:=hown.lt
  refine hk w1 ⟨b,n+1,_,rfl,hb,ho,by rw [List.length_append,List.length_singleton];omega,hown1,hi.put _ _,fun q => ?_⟩ ?_ ?_
  · by_cases e:s.data.toList=q.data.toList
    · have e1:inL (xs++[s]) q=true:=by
        unfold inL
        rw [List.any_append,List.any_cons,decide_eq_true e]
        simp
      rw [e1,← e,atKey_put_same hi (by trivial)]
    · rw [atKey_put_other (fun e_=>e (by injection e_ with e_;exact e_.symm)),hD q]
      have e1:inL (xs++[s]) q=inL xs q:=by
        unfold inL
        rw [List.any_append,List.any_cons,decide_eq_false e]
        simp
      rw [e1]
  · exact ⟨hgr.os.trans HB.os,hgr.tape.trans HB.tape,hgr.output.trans HB.output,Nat.le_trans HB.size hgr.size,fun k hk=>by
      have:=HB.size
      refine (hgr.block k (by omega) (fun e_ => ?_)).trans (HB.block k hk)
      injection e_ with e_
      omega⟩
  · intro g cs t z hc
    obtain ⟨es,clock,he,_⟩:=hown
    refine (hgr.block g (Array.getElem?_eq_some_iff.1 hc).1 (fun e_ => ?_)).trans hc
    injection e_ with e_
    subst e_
    rw [he] at hc
    cases hc
end
end Go.Proofs.YtfdbbpnmnogddaaGreatDoor.Pr
