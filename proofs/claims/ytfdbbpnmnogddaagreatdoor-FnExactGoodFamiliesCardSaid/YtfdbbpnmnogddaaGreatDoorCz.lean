/- Short names for steps that the printed proofs take again and again; each theorem states its own conditions. -/
import Derived.Test.YtfdbbpnmnogddaaGreatDoorWTab
import Derived.Test.YtfdbbpnmnogddaaGreatDoorWMore
import Derived.Test.YtfdbbpnmnogddaaGreatDoorGt
import Derived.WalkKit
namespace Go.Proofs.YtfdbbpnmnogddaaGreatDoor.Pr
open Go.RowKit Go.Proofs.YtfdbbpnmnogddaaGreatDoorW.PrintWords Go.Proofs.YtfdbbpnmnogddaaGreatDoorW.PrintLast Go.Proofs.YtfdbbpnmnogddaaGreatDoorW.PrintMore
section
variable {P:Program} {ops:Array Oper} {Q:Exit->Act->World->Prop} {rest:List Oper} {o:Oper} {a:Act}
theorem bx_ {W:World}(N:Tmp)(cs:Array Value)(t:TypeId)(h:∀ g,g=W.heap.size->∀ w1,w1.heap[g]? = some (.cells cs t (0,0))->Below W.heap.size W w1->wpList P ops Q rest (a.put o.dst (.pointer (some ⟨g,0,none⟩))) w1)
    (hgd:o.guard=none:=by rfl) (hd:o.dst=some N:=by rfl) (hrun:(execOp a.eval o).run P W = .ok (.value (.pointer (some ⟨W.heap.size,0,none⟩))) (W.alloc (.cells cs t (0,0))):=by first|(go_simp;done)|(go_simp;rfl)):wpList P ops Q (o::rest) a W:=box_event hgd hd hrun h
end
section
variable {P:Program} {md:Region.Mode} {ops:Array Oper} {Q:Exit->Act->World->Prop}
end
def bzL:Nat->Nat->List Bool
  | 0,_=>[]
  | n+1,x=>(x % 2==1)::bzL n (x / 2)
def bz (n x:Nat):Array Bool:=⟨bzL n x⟩
section
variable {P:Program} {ops:Array Oper} {Q:Exit->Act->World->Prop} {md:Region.Mode} {S:World->Prop} {ds:List Nat}
theorem pz_ {n y fuel:Nat}{oi:Oper}{v:Value}{a a':Act}{w:World}(i N x:Nat)(h:wpAnyLast P md ops Q S ds fuel (bz n x) a' w)
    (hi:ops[i]? = some oi:=by exact rfl) (hN:oi.dst=some N:=by exact rfl) (hc:anyB md ops (bz n y) (bz n x) i=true:=by exact any_of HT_.out (by kernel_rfl))
    (hQ:∀ c a w,Q (.panic c) (a.put oi.dst v) w->Q (.panic c) a w:=by exact fun _ _ _ h=>h) (hy:Yields P ops oi v a:=by exact Or.inl ⟨by rfl,by intro w';go_simp;with_reducible rfl⟩)
    (ha:a.put (some N) v=a':=by simp only [Act.put,List.setIfInBounds_toArray,List.set_cons_zero,List.set_cons_succ,i64_w,i32_w];rfl) :
    wpAnyLast P md ops Q S ds (fuel+1) (bz n y) a w:=pure_ (bz n x) hi hN hc hQ hy ha h
theorem uz_ {n y fuel:Nat}{oi:Oper}{a a':Act}{w:World}(i N x:Nat)(h:wpAnyLast P md ops Q S ds fuel (bz n x) a' w)
    (hi:ops[i]? = some oi:=by exact rfl) (hN:oi.dst=some N:=by exact rfl) (hc:anyB md ops (bz n y) (bz n x) i=true:=by exact any_of HT_.out (by kernel_rfl))
    (hQ:∀ c a w,Q (.panic c) (a.put oi.dst undef) w->Q (.panic c) a w:=by exact fun _ _ _ h=>h) (hy:Yields P ops oi undef a:=by exact Or.inr ⟨by rfl,rfl⟩)
    (ha:a.put (some N) undef=a':=by simp only [Act.put,List.setIfInBounds_toArray,List.set_cons_zero,List.set_cons_succ,i64_w,i32_w];rfl) :
    wpAnyLast P md ops Q S ds (fuel+1) (bz n y) a w:=pure_ (bz n x) hi hN hc hQ hy ha h
theorem tz_ {n y fuel:Nat}{oi:Oper}{v:Value}{a a':Act}{w:World}(i N x:Nat)(h:wpAnyLast P md ops Q S ds fuel (bz n x) a' w)
    (hi:ops[i]? = some oi:=by exact rfl) (hN:oi.dst=some N:=by exact rfl) (hc:takeB md ops ds (bz n y) (bz n x) i=true:=by exact take_ofW HT_.out HW_.out (by kernel_rfl))
    (hQ:∀ c a w,Q (.panic c) (a.put oi.dst v) w->Q (.panic c) a w:=by exact fun _ _ _ h=>h)
    (hy:YieldsIf P ops S oi v a:=by exact Or.inl ⟨by rfl,by intro w' hs;(repeat (obtain ⟨_,hs⟩:_/\_:=hs));go_simp;with_reducible rfl⟩) (hS:S w:=by exact hHeld)
    (ha:a.put (some N) v=a':=by simp only [Act.put,List.setIfInBounds_toArray,List.set_cons_zero,List.set_cons_succ,i64_w,i32_w];rfl) :
    wpAnyLast P md ops Q S ds (fuel+1) (bz n y) a w:=take_ (bz n x) hi hN hc hQ hy hS ha h
end
theorem sz_mk_ (a:Array UInt8):(⟨a⟩:ByteArray).size=a.size:=rfl
theorem bl_ {n:Nat}{w w':World}(h:Below n w w':=by repeat (first|(with_reducible first|exact HB.out|apply below_alloc|apply pw_below_drewN|apply below_drew1)|exact HB.out)):Below n w w':=h
theorem od_ {p:Prop}{d:Decidable p}(h:decide p=true:=by first|(with_reducible assumption)|assumption):p:=of_decide_eq_true h
theorem dd_ {p:Prop}(h:p:=by first|exact ⟨rfl,_,World.drewN_drewN _ _ _⟩|exact ⟨rfl,_,Eq.trans (World.drewN_drewN _ _ _) (congrArg (World.drewN _) (Nat.add_assoc _ _ _))⟩):p:=h
theorem kp_ {w w':World}{a:Addr}{v:Value}(HB:Aside0 (Below w.heap.size w w'))(h:w.cell? a=some v):w'.cell? a=some v:=(HB.out.cell (World.block_lt_of_cell? w _ h)).trans h
theorem gs_ {g:Nat}{w W:World}(hg:g=W.heap.size)(h:Below w.heap.size w W:=by repeat (first|(with_reducible first|exact HB.out|apply below_alloc|apply pw_below_drewN|apply below_drew1)|exact HB.out)):w.heap.size<=g:=by rw [hg];exact below_size h
theorem below_setA_ {w W:World}{g j:Nat}{v:Value}(h:Below w.heap.size w W)(hg:Aside0 (w.heap.size<=g)):Below w.heap.size w (W.setCell ⟨g,j,none⟩ v):=below_set h hg.out
theorem bg_ {n:Nat}{w w':World}(h:Below n w w':=by repeat (first|(with_reducible first|exact HB.out|apply below_alloc|apply pw_below_drewN|apply below_drew1|refine below_setA_ ?_ (by assumption))|exact HB.out)):Below n w w':=h
theorem vk_ {p q:Prop}(H:Aside0 p)(h:p->q:=by (intro hv_;(with_reducible repeat (first|refine blk_drewN ?_ _|refine blk_drew ?_|refine blk_alloc ?_ _));exact hv_)):q:=h H.out
theorem ro_ {p q:Prop}(H:Aside0 p)(h:p->q:=by (intro hv_;(with_reducible repeat (first|apply Kd.R_alloc|apply Kd.R_drewN|apply Kd.R_drew));exact hv_)):q:=h H.out
theorem cc_ {p q:Prop}(H:p)(h:p->q:=by (intro hv_;repeat (first|exact hv_|(with_reducible refine Kd.C_alloc ?_ _)|(with_reducible refine Kd.C_drewN ?_ _)|(with_reducible refine Kd.C_drew ?_)))):q:=h H
theorem nf_ {p b g:Nat}(H:b≠g)(e:p=b:=by first|exact add_block _ _|rfl|(show (Addr.add _ _).block=_;exact add_block _ _)):p≠g:=e ▸ H
theorem hb_ {a ad:Addr}{w:World}{v:Value}{g:Nat}(h:w.cell? a=some v)(G:Aside0 (w.heap.size<=g))(e:a.block=ad.block:=by first|exact add_block _ _|rfl|(show (Addr.add _ _).block=_;exact add_block _ _)):ad.block≠g:=e ▸ Nat.ne_of_lt (Nat.lt_of_lt_of_le (World.block_lt_of_cell? _ _ h) G.out)
theorem rf_ {p:Prop}(h:p:=by first|rfl|(simp [errW_none,errW_some] <;> rfl)|(simp [*,errW_none,errW_some] <;> rfl)|(simp [*,Go.Proofs.YtfdbbpnmnogddaaGreatDoor.Gt.nil_bne];done)):p:=h
theorem rs_ {p:Prop}(h:p:=by first|rfl|(simp;done)|(simp [*];done)):p:=h
theorem ni_ {p:Prop}(h:p:=by first|exact Kd.R_nil _ _ _ _ _|exact Kd.N_nil _ _ _ _ _|exact Kd.V_nil _ _ _ _ _|exact Kd.Q_nil _ _ _ _ _|exact Kd.S_nil _ _ _ _ _):p:=h
theorem ag_ {p:Prop}(h:p:=by (try simp only [List.map_toArray,List.map_cons,List.map_nil]);first|done|rfl|(simp only [List.length_drop,List.length_take];rfl)):p:=h
theorem am_ {p:Prop}(h:p):Aside0 p:=⟨h⟩
theorem gg_ {g:Nat}{w W:World}(hg:g=W.heap.size)(h:Below w.heap.size w W:=by repeat (first|(with_reducible first|exact HB.out|apply below_alloc|apply pw_below_drewN|apply below_drew1|refine below_setA_ ?_ (by assumption))|exact HB.out)):w.heap.size<=g:=by rw [hg];exact below_size h
theorem bf_ {w:World}{g t:Nat}{cs:Array Value}(h:Aside0 (w.heap[g]? = some (.cells cs t (0,0))))(i:Nat):w.frozen? ⟨g,i,none⟩=false:=blk_frozen h.out i
theorem cf_ {W:World}{a:Addr}{b:Nat}{v:Value}(g j:Nat)(hn:b≠g)(V:Value)(hx:W.cell? a=some v)(e:a.block=b:=by first|exact add_block _ _|rfl|(show (Addr.add _ _).block=_;exact add_block _ _)):(W.setCell ⟨g,j,none⟩ V).cell? a=some v:=(cell_far (p:=⟨g,j,none⟩) (e ▸ hn) V).trans hx
theorem bc1_0 {w:World}{g t:Nat}{v0:Value}(h:Aside0 (w.heap[g]? = some (.cells #[v0] t (0,0)))):w.cell? ⟨g,0,none⟩=some v0:=(blk_cell h.out 0).trans rfl
theorem bc2_0 {w:World}{g t:Nat}{v0 v1:Value}(h:Aside0 (w.heap[g]? = some (.cells #[v0,v1] t (0,0)))):w.cell? ⟨g,0,none⟩=some v0:=(blk_cell h.out 0).trans rfl
theorem bc2_1 {w:World}{g t:Nat}{v0 v1:Value}(h:Aside0 (w.heap[g]? = some (.cells #[v0,v1] t (0,0)))):w.cell? ⟨g,1,none⟩=some v1:=(blk_cell h.out 1).trans rfl
section
variable {w:World} {g t:Nat} {a b c d e f i:Value}
end
theorem is_ {α:Type}{c:Prop}{d:Decidable c}{a:Option α}{r:α}(h:@ite _ c d a none=some r):c/\a=some r:=by
  by_cases hc:c
  · rw [if_pos hc] at h;exact ⟨hc,h⟩
  · rw [if_neg hc] at h;exact absurd h (by simp)
theorem ig_ {α:Type}{c:Prop}{d:Decidable c}{a:Option α}{r:α}(h:@ite _ c d none a=some r):¬ c/\a=some r:=by
  by_cases hc:c
  · rw [if_pos hc] at h;exact absurd h (by simp)
  · rw [if_neg hc] at h;exact ⟨hc,h⟩
theorem bs_ {α β:Type}{x:Option α}{f:α->Option β}{r:β}(h:x.bind f=some r):∃ t,Aside0 (x=some t)/\f t=some r:=by
  obtain ⟨t,h1,h2⟩:=Option.bind_eq_some_iff.mp h
  exact ⟨t,⟨h1⟩,h2⟩
theorem it_ {α:Type}{d:Decidable (true=true)}{a b c:α}(h:@ite _ (true=true) d a b=c):a=c:=by rw [if_pos rfl] at h;exact h
theorem if_ {α:Type}{d:Decidable (false=true)}{a b c:α}(h:@ite _ (false=true) d a b=c):b=c:=by rw [if_neg (show ¬ (false=true) from Bool.noConfusion)] at h;exact h
theorem dg_ {α:Type}[LT α]{a b:α}[Decidable (b<a)](h:a>b):decide (b<a)=true:=decide_eq_true h
theorem df_ {α:Type}[LT α]{a b:α}[Decidable (b<a)](h:¬ a>b):decide (b<a)=false:=decide_eq_false h
theorem eb_ {α:Type}[BEq α][LawfulBEq α]{a b:α}(h:a=b):(a==b)=true:=beq_iff_eq.mpr h
theorem en_ {α:Type}[BEq α][LawfulBEq α]{a b:α}(h:a=b):(a != b)=false:=bne_eq_false_iff_eq.mpr h
theorem nb_ {α:Type}[BEq α][LawfulBEq α]{a b:α}(h:¬ a=b):(a==b)=false:=beq_eq_false_iff_ne.mpr h
theorem nn_ {α:Type}[BEq α][LawfulBEq α]{a b:α}(h:¬ a=b):(a != b)=true:=bne_iff_ne.mpr h
theorem ie_ {l:List UInt8}(h:(l != ([]:List UInt8))=false):l.isEmpty=true:=by have e_:=h;rw [Go.Proofs.YtfdbbpnmnogddaaGreatDoor.Gt.nil_bne] at e_;simpa using e_
theorem ne_ {l:List UInt8}(h:(l != ([]:List UInt8))=true):l.isEmpty=false:=by have e_:=h;rw [Go.Proofs.YtfdbbpnmnogddaaGreatDoor.Gt.nil_bne] at e_;simpa using e_
theorem vb_ {w0 W w1:World}{g:Nat}{o:Obj}(H:Aside0 (w0.heap[g]? = some o))(hb:Below W.heap.size W w1)(h:w0.heap[g]? = some o->W.heap[g]? = some o:=by (intro hv_;(with_reducible repeat (first|refine blk_drewN ?_ _|refine blk_drew ?_|refine blk_alloc ?_ _));exact hv_)):Aside0 (w1.heap[g]? = some o):=⟨blk_below (h H.out) hb⟩
theorem nl_ {w0 W:World}{g g':Nat}{o:Obj}(H:Aside0 (w0.heap[g]? = some o))(hg:g'=W.heap.size)(h:w0.heap[g]? = some o->W.heap[g]? = some o:=by (intro hv_;(with_reducible repeat (first|refine blk_drewN ?_ _|refine blk_drew ?_|refine blk_alloc ?_ _));exact hv_)):Aside0 (g≠g'):=⟨by rw [hg];exact Nat.ne_of_lt (blk_lt (h H.out))⟩
theorem nr_ {w0 W:World}{g g':Nat}{o:Obj}(H:Aside0 (w0.heap[g]? = some o))(hg:g'=W.heap.size)(h:w0.heap[g]? = some o->W.heap[g]? = some o:=by (intro hv_;(with_reducible repeat (first|refine blk_drewN ?_ _|refine blk_drew ?_|refine blk_alloc ?_ _));exact hv_)):Aside0 (g'≠g):=⟨by rw [hg];exact Nat.ne_of_gt (blk_lt (h H.out))⟩
theorem vf_ {p q:Prop}(H:Aside0 p)(h:p->q:=by (intro hv_;(repeat (first|(with_reducible first|refine blk_drewN ?_ _|refine blk_drew ?_|refine blk_alloc ?_ _)|refine blk_far ?_ (Aside0.out (by assumption)) _));exact hv_)):q:=h H.out
section
variable {w:World} {g t:Nat} {a b c d e f i j l:Value}
theorem bk2_ (h:Aside0 (w.heap[g]? = some (.cells #[a,b] t (0,0)))):(w.cell? ⟨g,0,none⟩=some a/\w.cell? ⟨g,1,none⟩=some b)/\∀ i,w.frozen? ⟨g,i,none⟩=false:=⟨⟨(blk_cell h.out 0).trans rfl,(blk_cell h.out 1).trans rfl⟩,fun i=>blk_frozen h.out i⟩
theorem bk3_ (h:Aside0 (w.heap[g]? = some (.cells #[a,b,c] t (0,0)))):(w.cell? ⟨g,0,none⟩=some a/\w.cell? ⟨g,1,none⟩=some b/\w.cell? ⟨g,2,none⟩=some c)/\∀ i,w.frozen? ⟨g,i,none⟩=false:=⟨⟨(blk_cell h.out 0).trans rfl,(blk_cell h.out 1).trans rfl,(blk_cell h.out 2).trans rfl⟩,fun i=>blk_frozen h.out i⟩
theorem bk4_ (h:Aside0 (w.heap[g]? = some (.cells #[a,b,c,d] t (0,0)))):(w.cell? ⟨g,0,none⟩=some a/\w.cell? ⟨g,1,none⟩=some b/\w.cell? ⟨g,2,none⟩=some c/\w.cell? ⟨g,3,none⟩=some d)/\∀ i,w.frozen? ⟨g,i,none⟩=false:=⟨⟨(blk_cell h.out 0).trans rfl,(blk_cell h.out 1).trans rfl,(blk_cell h.out 2).trans rfl,(blk_cell h.out 3).trans rfl⟩,fun i=>blk_frozen h.out i⟩
theorem bk8_ (h:Aside0 (w.heap[g]? = some (.cells #[a,b,c,d,e,f,i,j] t (0,0)))):(w.cell? ⟨g,0,none⟩=some a/\w.cell? ⟨g,1,none⟩=some b/\w.cell? ⟨g,2,none⟩=some c/\w.cell? ⟨g,3,none⟩=some d/\w.cell? ⟨g,4,none⟩=some e/\w.cell? ⟨g,5,none⟩=some f/\w.cell? ⟨g,6,none⟩=some i/\w.cell? ⟨g,7,none⟩=some j)/\∀ i,w.frozen? ⟨g,i,none⟩=false:=⟨⟨(blk_cell h.out 0).trans rfl,(blk_cell h.out 1).trans rfl,(blk_cell h.out 2).trans rfl,(blk_cell h.out 3).trans rfl,(blk_cell h.out 4).trans rfl,(blk_cell h.out 5).trans rfl,(blk_cell h.out 6).trans rfl,(blk_cell h.out 7).trans rfl⟩,fun i=>blk_frozen h.out i⟩
end
section
variable {P:Program} {ops:Array Oper} {Q:Exit->Act->World->Prop}
theorem gl_ {rest:List Oper}{oi:Oper}{a:Act}{w:World}(N:Nat){f:FuncId}{fn:Func}{as:Array Operand}{ts:Array TypeId}(hf:P.funcs[f]? = some fn)(args:Array Value)
    (h:Calls P f args w fun e w'=>∃ v,e = .returned v/\wpList P ops Q rest (a.put (some N) v) w')
    (hd:oi.dst=some N:=by exact rfl) (hg:oi.guard=none:=by exact rfl) (hname:(fn.name == "runtime.NumGoroutine")=false:=by kernel_rfl) (hb:fn.body.isSome=true:=by exact rfl)
    (hop:oi.op = .call { callee:=.value (.func f),args:=as,argTypes:=ts }:=by exact rfl) (hargs:as.map a.eval=args:=by (try simp only [List.map_toArray,List.map_cons,List.map_nil]);first|done|rfl|(simp only [List.length_drop,List.length_take];rfl)):wpList P ops Q (oi::rest) a w:=goesL_ (some N) hd hg hf hname hb args hop hargs h
end
theorem si_ {α:Type}{a b:α}(h:some a=some b):a=b:=Option.some.inj h
end Go.Proofs.YtfdbbpnmnogddaaGreatDoor.Pr
