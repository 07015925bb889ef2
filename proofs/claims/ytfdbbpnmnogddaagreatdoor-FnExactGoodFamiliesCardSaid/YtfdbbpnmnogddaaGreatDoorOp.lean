/- A law's arguments, of whatever data type, read as the printed kinds say: one lemma for each kind of type. -/
import Derived.Test.YtfdbbpnmnogddaaGreatDoorWWords
import Derived.ChangeArms
import Derived.ChangeSlices
import Derived.SliceStrings
import Derived.WideShapes
import Derived.DataReads
namespace Go.Proofs.YtfdbbpnmnogddaaGreatDoor.Op
open Go.ChangeShapes Go.WideShapes Go.RowKit Go.Proofs.YtfdbbpnmnogddaaGreatDoorW.PrintWords
set_option linter.unusedVariables false
structure Opens (P:Program) (t:Nat) {α:Type} (d:Kd α) (wf:α->Prop):Prop where
  cells:P.cellsOf t=d.sz
  read:∀ {H:Type} {enc:TypeId × Value->H} {w:World} {held:Bool} {fuel:Nat} {cs:List Value} {x:DataW H × List MemPlace},DataW.trod enc P w 0 (fun _=>true) held fuel t cs=some x->∃ a,d.K w a cs/\wf a
theorem opens_int {P:Program}{t:Nat}{k:IntKind}(ht:P.underlying t=some (.int k))(hc:P.cellsOf t=1):Opens P t (Kd.int k) (fun x=>(Lit.int k x).wf=true) :=
  ⟨hc,fun h=>by
    obtain ⟨m,rfl,_,hw⟩:=DataW.trod_int ht h
    exact ⟨m,rfl,hw⟩⟩
theorem opens_bool {P:Program}{t:Nat}(ht:P.underlying t=some .bool)(hc:P.cellsOf t=1):Opens P t Kd.bool (fun _=>True) :=
  ⟨hc,fun h=>by
    obtain ⟨m,rfl,_⟩:=DataW.trod_bool ht h
    exact ⟨m,rfl,trivial⟩⟩
theorem opens_string {P:Program}{t:Nat}(ht:P.underlying t=some .string)(hc:P.cellsOf t=1):Opens P t Kd.string (fun s=>s.size<=maxLen) :=
  ⟨hc,fun h=>by
    obtain ⟨s,rfl,_,hw⟩:=DataW.trod_string ht h
    exact ⟨s,rfl,hw⟩⟩
theorem choose_list {α:Type}(n:Nat)(Q:Nat->α->Prop)(h:∀ i,i<n->∃ a,Q i a):∃ l:List α,l.length=n/\∀ i a,l[i]? = some a->Q i a:=by
  induction n with
  | zero=>exact ⟨[],rfl,fun i a hi=>by simp at hi⟩
  | succ n ih =>
    obtain ⟨l,hl,hq⟩:=ih (fun i hi=>h i (by omega))
    obtain ⟨a,ha⟩:=h n (by omega)
    refine ⟨l++[a],by simp [hl],fun i b hi => ?_⟩
    by_cases e:i<l.length
    · rw [List.getElem?_append_left e] at hi
      exact hq i b hi
    · rw [List.getElem?_append_right (by omega)] at hi
      have hlt:=(List.getElem?_eq_some_iff.1 hi).1
      have:i=n:=by simp at hlt;omega
      subst this
      simp [hl] at hi
      subst hi
      exact ha
theorem opens_slice {P:Program}{t e:Nat}{α:Type}{d:Kd α}{wf:α->Prop}(ht:P.underlying t=some (.slice e))(hc:P.cellsOf t=1)(he:Opens P e d wf) :
    Opens P t (Kd.slice e d) (fun l=>l.length<=maxLen/\∀ x∈l,wf x) :=
  ⟨hc,fun {H enc w held fuel cs x} h=>by
    rcases DataW.trod_slice ht h with ⟨rfl,_⟩|⟨a,len,cap,elems,rest,n,_,rfl,_,_,hl,hm,hlen,hel,_,_⟩
    · exact ⟨[],⟨none,0,rfl,Nat.le_refl _,rfl,by simp,fun h=>absurd h (by simp)⟩,by simp [maxLen],fun x hx=>by simp at hx⟩
    · have key:∀ i,i<len->∃ y:α,∃ c,(w.cells? 0 (a.add (i*d.sz)) d.sz)=some c/\d.K w y c/\wf y:=by
        intro i hi
        have h1:=hel i hi
        rw [List.getElem?_eq_getElem (by omega),Option.bind_eq_some_iff] at h1
        obtain ⟨c,hc1,hc2⟩:=h1
        obtain ⟨y,hy,hw⟩:=he.read hc2
        rw [he.cells] at hc1
        exact ⟨y,c,hc1,hy,hw⟩
      obtain ⟨l,hll,hq⟩:=choose_list len _ key
      refine ⟨l,⟨some a,cap,by rw [hll],by omega,rfl,by rw [hll];simp only [maxLen] at hm;omega,fun _=>⟨a,rfl,fun j p hj => ?_⟩⟩,by omega,fun x hx => ?_⟩
      · obtain ⟨c,hc1,hy,_⟩:=hq j p hj
        refine ⟨c,d.K_len hy,hy,fun i u hu => ?_⟩
        have hi:i<d.sz:=by have:=(List.getElem?_eq_some_iff.1 hu).1;rw [d.K_len hy] at this;exact this
        have h2:=(World.cells?_some hc1).2.2 i hi
        rw [hu,add_add] at h2
        exact h2
      · obtain ⟨i,hi⟩:=List.getElem?_of_mem hx
        obtain ⟨_,_,_,hw⟩:=hq i x hi
        exact hw⟩
structure FO (P:Program) (off:Nat) (fs:List Field) {α:Type} (d:Kd α) (wf:α->Prop):Prop where
  out:∀ {H:Type} {enc:TypeId × Value->H} {w:World} {held:Bool} {fuel:Nat} {cs:List Value},cs.length=off+d.sz->(∀ f∈fs,∃ x,DataW.trod enc P w 0 (fun _=>true) held fuel f.type ((cs.drop f.offset).take (P.cellsOf f.type))=some x)->∃ a,d.K w a (cs.drop off)/\wf a
theorem fo_one {P:Program}{off:Nat}{f:Field}{α:Type}{d:Kd α}{wf:α->Prop}(ho:f.offset=off)(h:Opens P f.type d wf):FO P off [f] d wf:=by
  refine ⟨?_⟩
  intro H enc w held fuel cs hl hf
  obtain ⟨x,hx⟩:=hf f (by simp)
  rw [ho,h.cells,List.take_of_length_le (by rw [List.length_drop];omega)] at hx
  exact h.read hx
theorem fo_cons {P:Program}{off:Nat}{f:Field}{fs:List Field}{α β:Type}{d:Kd α}{d':Kd β}{wf:α->Prop}{wf':β->Prop}(ho:f.offset=off)(h:Opens P f.type d wf)(hs:FO P (off+d.sz) fs d' wf') :
    FO P off (f::fs) (Kd.pair d d') (fun x=>wf x.1/\wf' x.2):=by
  refine ⟨?_⟩
  intro H enc w held fuel cs hl hf
  have hl':cs.length=off+(d.sz+d'.sz):=hl
  obtain ⟨x,hx⟩:=hf f (by simp)
  rw [ho,h.cells] at hx
  obtain ⟨a,ha,hwa⟩:=h.read hx
  obtain ⟨b,hb,hwb⟩:=hs.out (cs:=cs) (by omega) (fun g hg=>hf g (by simp [hg]))
  refine ⟨(a,b),⟨(cs.drop off).take d.sz,cs.drop (off+d.sz),?_,ha,hb⟩,hwa,hwb⟩
  rw [← List.drop_drop,List.take_append_drop]
theorem opens_struct {P:Program}{t:Nat}{fs:Array Field}{α β:Type}{d:Kd α}{wf:α->Prop}{g:β->α}(k:α->β)(hk:∀ x,g (k x)=x)(ht:P.underlying t=some (.struct fs))(hc:P.cellsOf t=d.sz)(h:FO P 0 fs.toList d wf) :
    Opens P t (Kd.iso d g) (fun y=>wf (g y)) :=
  ⟨hc,fun {H enc w held fuel cs x} hx=>by
    obtain ⟨xs,n,_,_,hl,hlen,hf⟩:=DataW.trod_struct ht hx
    obtain ⟨a,ha,hw⟩:=h.out (enc:=enc) (w:=w) (held:=held) (fuel:=n) (cs:=cs) (by omega) (fun f hf'=>by
      obtain ⟨i,hi⟩:=List.getElem?_of_mem hf'
      have hi':fs[i]? = some f:=by rw [← Array.getElem?_toList];exact hi
      have hlt:i<xs.length:=by rw [hlen];exact (Array.getElem?_eq_some_iff.1 hi').1
      exact ⟨xs[i],by rw [hf i f hi',List.getElem?_eq_getElem hlt]⟩)
    refine ⟨k a,?_,?_⟩
    · show d.K w (g (k a)) cs
      rw [hk]
      exact ha
    · show wf (g (k a))
      rw [hk]
      exact hw⟩
theorem opens_struct_ {P:Program}{t:Nat}{fs:Array Field}{α:Type}{d:Kd α}{wf:α->Prop}(ht:P.underlying t=some (.struct fs))(hc:P.cellsOf t=d.sz)(h:FO P 0 fs.toList d wf):Opens P t d wf :=
  ⟨hc,fun {H enc w held fuel cs x} hx=>(opens_struct (d:=d) (wf:=wf) (g:=id) id (fun _=>rfl) ht hc h).read hx⟩
theorem Opens.mono {P:Program}{t:Nat}{α:Type}{d:Kd α}{wf wf':α->Prop}(h:Opens P t d wf)(hw:∀ a,wf a->wf' a):Opens P t d wf' :=
  ⟨h.cells,fun hx=>by
    obtain ⟨a,ha,hwa⟩:=h.read hx
    exact ⟨a,ha,hw a hwa⟩⟩
theorem arg_slice {H:Type}{enc:TypeId × Value->H}{P:Program}{W:World}{held:Bool}{t e:Nat}{α:Type}{d:Kd α}{wf:List α->Prop}{v:Value}{x:DataW H}{ps:List MemPlace}(hv:∃ A n c,v = .slice A n c)(ho:Opens P t (Kd.slice e d) wf)
    (h:DataW.Trod enc P W 0 (fun _=>true) held t v x ps):∃ A c l,v = .slice A l.length c/\l.length<=c/\Kd.C d W A l.length l/\wf l:=by
  obtain ⟨A,n,c,rfl⟩:=hv
  obtain ⟨fuel,hf⟩:=h
  obtain ⟨l,⟨A',c',he,hl,hr⟩,hw⟩:=ho.read hf
  simp [Value.cells] at he
  obtain ⟨rfl,rfl,rfl⟩:=he
  exact ⟨_,_,l,rfl,hl,hr,hw⟩
theorem arg_agg {H:Type}{enc:TypeId × Value->H}{P:Program}{W:World}{held:Bool}{t:Nat}{α:Type}{d:Kd α}{wf:α->Prop}{cs:Array Value}{x:DataW H}{ps:List MemPlace}(ho:Opens P t d wf)
    (h:DataW.Trod enc P W 0 (fun _=>true) held t (.agg cs) x ps):∃ a:α,d.K W a cs.toList/\wf a:=by
  obtain ⟨fuel,hf⟩:=h
  exact ho.read (by simpa [Value.cells] using hf)
theorem wf_i64 {x:Int}(h:(Lit.int .i64 x).wf=true) : -9223372036854775808<=x/\x<=9223372036854775807:=by
  simp [Lit.wf,IntKind.min,IntKind.max,IntKind.bits,IntKind.signed] at h
  exact h
theorem wf_u8 {x:Int}(h:(Lit.int .u8 x).wf=true):0<=x/\x<256:=by
  simp [Lit.wf,IntKind.min,IntKind.max,IntKind.bits,IntKind.signed] at h
  exact ⟨by omega,by omega⟩
end Go.Proofs.YtfdbbpnmnogddaaGreatDoor.Op
