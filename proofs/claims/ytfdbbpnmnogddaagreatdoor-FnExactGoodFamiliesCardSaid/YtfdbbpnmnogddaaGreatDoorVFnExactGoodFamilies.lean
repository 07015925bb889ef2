/- Plain lemmas over the printed functions, for the law FnExactGoodFamilies; each theorem states its own conditions. -/
import Derived.Test.YtfdbbpnmnogddaaGreatDoorPrx0
import Derived.Test.YtfdbbpnmnogddaaGreatDoorPrxg167f2i1
import Derived.Test.YtfdbbpnmnogddaaGreatDoorPrxg167f2l1
import Derived.Test.YtfdbbpnmnogddaaGreatDoorPrxg167f2s1
import Derived.Test.YtfdbbpnmnogddaaGreatDoorPrxg8bf11i1
import Derived.Test.YtfdbbpnmnogddaaGreatDoorPrxg8bf11i2
import Derived.Test.YtfdbbpnmnogddaaGreatDoorPrxg8bf11i3
import Derived.Test.YtfdbbpnmnogddaaGreatDoorPrxg8bf11l1
import Derived.Test.YtfdbbpnmnogddaaGreatDoorPrxg8bf11l2
import Derived.Test.YtfdbbpnmnogddaaGreatDoorPrxg8bf11s1
import Derived.Test.YtfdbbpnmnogddaaGreatDoorPrxg8bf11s2
import Derived.Test.YtfdbbpnmnogddaaGreatDoorPrxg8bf11s3
import Derived.Test.YtfdbbpnmnogddaaGreatDoorPrxg8bf11s4
set_option maxHeartbeats 4000000
namespace Go.Proofs.YtfdbbpnmnogddaaGreatDoor.U
open Go.RowKit Go.Proofs.YtfdbbpnmnogddaaGreatDoor.Pr Go.Proofs.YtfdbbpnmnogddaaGreatDoorW.PrintWords Go.Proofs.YtfdbbpnmnogddaaGreatDoorW.PrintLast Go.Proofs.YtfdbbpnmnogddaaGreatDoorW.PrintMore
set_option linter.unusedVariables false
set_option linter.unusedSimpArgs false
theorem w64 {x:Int}(h0 : -9223372036854775808<=x)(h1:x<=9223372036854775807):wrap64 x=x:=by unfold wrap64;omega
theorem w64n {i n:Nat}(h:i<n)(hn:n<=9223372036854775807):wrap64 ((i:Int)+1)=((i+1:Nat):Int):=by unfold wrap64;omega
theorem ev_now {α:Type}(r:α):Ev (fun _=>some r) r:=Ev.now r
theorem ev_eq {α:Type}{g:Option α}{r:α}(h:g=some r):Ev (fun _=>g) r:=⟨0,fun _ _=>h⟩
theorem ev_pos {α:Type}{c:Prop}[Decidable c]{a b:Nat->Option α}{r:α}(h:c)(e:Ev a r):Ev (fun k=>if c then a k else b k) r:=by
 obtain ⟨K,e⟩:=e
 exact ⟨K,fun k hk=>(if_pos h).trans (e k hk)⟩
theorem ev_neg {α:Type}{c:Prop}[Decidable c]{a b:Nat->Option α}{r:α}(h:¬ c)(e:Ev b r):Ev (fun k=>if c then a k else b k) r:=by
 obtain ⟨K,e⟩:=e
 exact ⟨K,fun k hk=>(if_neg h).trans (e k hk)⟩
theorem ev_ite {α:Type}{c:Prop}[Decidable c]{a b:Nat->Option α}{r:α}(h:c->Ev a r)(h':¬ c->Ev b r):Ev (fun k=>if c then a k else b k) r:=by
 by_cases hc:c
 ·exact ev_pos hc (h hc)
 ·exact ev_neg hc (h' hc)
theorem ev_bind {α β:Type}{g:Nat->Option α}{f:Nat->α->Option β}{a:α}{r:β}(h:Ev g a)(k:Ev (fun n=>f n a) r):Ev (fun n=>(g n).bind (f n)) r:=Ev.bind h k
theorem ev_some {α β:Type}{f:Nat->α->Option β}{a:α}{r:β}(k:Ev (fun n=>f n a) r):Ev (fun n=>(some a).bind (f n)) r:=Ev.bind (Ev.now a) k
theorem ev_step {α:Type}{g f:Nat->Option α}{r:α}(h:∀ k,g (k+1)=f k)(k:Ev f r):Ev g r:=Ev.step h k
theorem up_ind (n:Nat)(Q:Nat->Prop)(done:Q n)(step:∀ i,i<n->Q (i+1)->Q i):∀ i,i<=n->Q i:=by
 have key:∀ d i,i+d=n->Q i:=by
  intro d
  induction d with
  | zero =>
   intro i h
   have e:i=n:=by omega
   rw [e]
   exact done
  | succ d ih=>intro i h;exact step i (by omega) (ih (i+1) (by omega))
 exact fun i h=>key (n-i) i (by omega)
theorem getD_lt {α:Type}{l:List α}{d:α}{i:Nat}(h:i<l.length):l.getD ((i:Int).toNat) d=l[i]:=by
 rw [Int.toNat_natCast,List.getD_eq_getElem?_getD,List.getElem?_eq_getElem h]
 rfl
theorem rdOf_at {α:Type}{d:α}{l:List α}{i:Nat}(h:i<l.length):rdOf d l (i:Int)=l[i]:=getD_lt h
theorem ev_copy {α β:Type}(F:Nat->List β->Int->Option (List β))(cv:α->β)(l:List α)(x:List β)(hx:x.length=l.length)
  (step:∀ (i:Nat) (h:i<l.length) (y r:List β),y.length=l.length->Ev (fun k=>F k (y.set i (cv l[i])) ((i+1:Nat):Int)) r->Ev (fun k=>F k y (i:Int)) r)
  (done:∀ y:List β,y.length=l.length->Ev (fun k=>F k y (l.length:Int)) y):Ev (fun k=>F k x 0) (l.map cv):=by
 refine up_ind l.length (fun i=>∀ y:List β,y.length=l.length->(∀ j,j<i->y[j]? = (l.map cv)[j]?)->Ev (fun k=>F k y (i:Int)) (l.map cv)) ?_ ?_ 0 (by omega) x hx (fun j hj=>by omega)
 ·intro y hy h
  have e:y=l.map cv:=by
   apply List.ext_getElem?
   intro j
   by_cases hj:j<l.length
   ·exact h j hj
   ·rw [List.getElem?_eq_none (by omega),List.getElem?_eq_none (by simp;omega)]
  have d:=done y hy
  rw [e] at d ⊢
  exact d
 ·intro i hi ih y hy h
  refine step i hi y _ hy (ih _ (by simp [hy]) (fun j hj => ?_))
  by_cases e:j=i
  ·subst e
   rw [List.getElem?_set_self (by omega),List.getElem?_map,List.getElem?_eq_getElem hi]
   rfl
  ·rw [List.getElem?_set_ne (Ne.symm e)]
   exact h j (by omega)
end Go.Proofs.YtfdbbpnmnogddaaGreatDoor.U
namespace Go.Proofs.YtfdbbpnmnogddaaGreatDoor.U
open Go.RowKit Go.Proofs.YtfdbbpnmnogddaaGreatDoor.Pr Go.Proofs.YtfdbbpnmnogddaaGreatDoorW.PrintWords Go.Proofs.YtfdbbpnmnogddaaGreatDoorW.PrintLast Go.Proofs.YtfdbbpnmnogddaaGreatDoorW.PrintMore
set_option linter.unusedVariables false
set_option linter.unusedSimpArgs false
def sm102 (x:S102):Prop:=x.f0.size<=1048576/\x.f1.size<=1048576
def cv102 (x:S102):S70:=⟨x.f0,x.f1⟩
theorem toLabel (x:S102)(hx:sm102 x):Ev (fun _=>laws_toLabel.f x.f0 x.f1) (x.f0,x.f1):=by
 obtain ⟨h0,h1⟩:=hx
 unfold laws_toLabel.f
 exact ev_now _
theorem eqLabel (x:S70):Ev (fun _=>laws_eqLabel.f x.f0 x.f1 x.f0 x.f1) true:=ev_eq (by simp [laws_eqLabel.f])
def sw102 (x:S102):Prop:=(x.f0.size<=maxLen)/\(x.f1.size<=maxLen)
theorem szLabel (x:S102)(c:Int)(h0:0<=c)(h1:c<=1048576)(hw:sw102 x):∃ r,Ev (fun _=>laws_szLabel.f x.f0 x.f1 c) r/\r<=c/\(0<=r->sm102 x):=by
 obtain ⟨w0,w1⟩:=hw
 unfold laws_szLabel.f
 simp only [maxLen] at w0
 rw [w64 (x:=c-(x.f0.size:Int)) (by omega) (by omega)]
 by_cases n0:c-(x.f0.size:Int)<0
 ·exact ⟨-1,ev_pos n0 (ev_now _),by omega,fun h=>absurd h (by decide)⟩
 ·skip
  simp only [maxLen] at w1
  rw [w64 (x:=(c-(x.f0.size:Int))-(x.f1.size:Int)) (by omega) (by omega)]
  by_cases n1:(c-(x.f0.size:Int))-(x.f1.size:Int)<0
  ·exact ⟨-1,ev_neg n0 (ev_pos n1 (ev_now _)),by omega,fun h=>absurd h (by decide)⟩
  ·skip
   exact ⟨_,ev_neg n0 (ev_neg n1 (ev_now _)),by omega,fun _=>⟨by omega,by omega⟩⟩
end Go.Proofs.YtfdbbpnmnogddaaGreatDoor.U
namespace Go.Proofs.YtfdbbpnmnogddaaGreatDoor.U
open Go.RowKit Go.Proofs.YtfdbbpnmnogddaaGreatDoor.Pr Go.Proofs.YtfdbbpnmnogddaaGreatDoorW.PrintWords Go.Proofs.YtfdbbpnmnogddaaGreatDoorW.PrintLast Go.Proofs.YtfdbbpnmnogddaaGreatDoorW.PrintMore
set_option linter.unusedVariables false
set_option linter.unusedSimpArgs false
theorem toLabelS (l:List (S102))(hl:(l.length<=1048576/\∀ y∈l,sm102 y)):Ev (fun k=>laws_toLabelS.f k l) (l.map cv102):=by
 obtain ⟨hl,hs⟩:=hl
 unfold laws_toLabelS.f
 repeat (first|(with_reducible refine ev_pos (by first|omega|rfl|decide) ?_)|(with_reducible refine ev_neg (by first|omega|decide) ?_))
 have key:=ev_copy (F:=fun k y i=>laws_toLabelS.l0 k l y i) cv102 l (List.replicate ((l.length:Int):Int).toNat z70) (by simp) ?step ?done
 case step =>
  intro i h y r hy hr
  refine ev_step (fun _=>laws_toLabelS.l0.eq_2 ..) ?_
  repeat (first|(with_reducible refine ev_pos (by first|omega|rfl|decide) ?_)|(with_reducible refine ev_neg (by first|omega|decide) ?_))
  rw [(show rd_T102 l (i:Int)=l[i] from getD_lt h)]
  refine ev_bind (toLabel l[i] (hs _ (List.getElem_mem h))) ?_
  repeat (first|(with_reducible refine ev_pos (by first|omega|rfl|decide) ?_)|(with_reducible refine ev_neg (by first|omega|decide) ?_))
  rw [w64n h (by omega),Int.toNat_natCast]
  exact hr
 case done =>
  intro y hy
  refine ev_step (fun _=>laws_toLabelS.l0.eq_2 ..) ?_
  repeat (first|(with_reducible refine ev_pos (by first|omega|rfl|decide) ?_)|(with_reducible refine ev_neg (by first|omega|decide) ?_))
  exact ev_now _
 exact key
theorem eqLabelS (l:List (S70))(hl:l.length<=1048576):Ev (fun k=>laws_eqLabelS.f k l l) true:=by
 unfold laws_eqLabelS.f
 refine ev_pos rfl ?_
 refine up_ind l.length (fun i=>Ev (fun k=>laws_eqLabelS.l0 k l l (i:Int)) true) ?_ ?_ 0 (by omega)
 ·refine ev_step (fun _=>laws_eqLabelS.l0.eq_2 ..) ?_
  refine ev_neg (by omega) ?_
  exact ev_now _
 ·intro i h ih
  refine ev_step (fun _=>laws_eqLabelS.l0.eq_2 ..) ?_
  repeat (first|(with_reducible refine ev_pos (by first|omega|rfl|decide) ?_)|(with_reducible refine ev_neg (by first|omega|decide) ?_))
  refine ev_bind (eqLabel _) ?_
  refine ev_pos rfl ?_
  rw [w64n h (by omega)]
  exact ih
theorem szLabelS (l:List (S102))(c:Int)(h0:0<=c)(h1:c<=1048576)(hl:l.length<=maxLen)(hw:∀ x∈l,sw102 x):∃ r,Ev (fun k=>laws_szLabelS.f k l c) r/\r<=c/\(0<=r->(l.length<=1048576/\∀ y∈l,sm102 y)):=by
 simp only [maxLen] at hl
 unfold laws_szLabelS.f
 rw [w64 (x:=c-(l.length:Int)) (by omega) (by omega)]
 by_cases hn:c-(l.length:Int)<0
 ·exact ⟨-1,ev_pos hn (ev_now _),by omega,fun h=>absurd h (by decide)⟩
 ·have key:=up_ind l.length (fun i=>∀ c:Int,0<=c->c<=1048576->∃ r,Ev (fun k=>laws_szLabelS.l0 k l c (i:Int)) r/\r<=c/\(0<=r->∀ j (h:j<l.length),i<=j->sm102 l[j])) ?d ?s 0 (by omega) (c-(l.length:Int)) (by omega) (by omega)
  case d=>exact fun c h0 h1=>⟨c,ev_step (fun _=>laws_szLabelS.l0.eq_2 ..) (ev_neg (by omega) (ev_now _)),Int.le_refl _,fun _ j h hj=>by omega⟩
  case s =>
   intro i h ih c h0 h1
   obtain ⟨r1,e1,hr1,hs1⟩:=szLabel l[i] c h0 h1 (hw _ (List.getElem_mem h))
   by_cases hr:r1<0
   ·refine ⟨-1,ev_step (fun _=>laws_szLabelS.l0.eq_2 ..) ?_,by omega,fun h=>absurd h (by decide)⟩
    repeat (first|(with_reducible refine ev_pos (by first|omega|rfl|decide) ?_)|(with_reducible refine ev_neg (by first|omega|decide) ?_))
    rw [(show rd_T102 l (i:Int)=l[i] from getD_lt h)]
    exact ev_bind e1 (ev_pos hr (ev_now _))
   ·obtain ⟨r,e,hrc,hs⟩:=ih (r1) (by omega) (by omega)
    refine ⟨r,ev_step (fun _=>laws_szLabelS.l0.eq_2 ..) ?_,by omega,fun h2 j hj hij => ?_⟩
    ·repeat (first|(with_reducible refine ev_pos (by first|omega|rfl|decide) ?_)|(with_reducible refine ev_neg (by first|omega|decide) ?_))
     rw [(show rd_T102 l (i:Int)=l[i] from getD_lt h)]
     refine ev_bind e1 (ev_neg hr ?_)
     rw [w64n h (by omega)]
     exact e
    ·by_cases ej:j=i
     ·subst ej
      exact hs1 (by omega)
     ·exact hs h2 j hj (by omega)
  obtain ⟨r,e,hrc,hs⟩:=key
  refine ⟨r,ev_neg hn e,by omega,fun h=>⟨by omega,fun y hy => ?_⟩⟩
  obtain ⟨j,hj,rfl⟩:=List.getElem_of_mem hy
  exact hs h j hj (by omega)
end Go.Proofs.YtfdbbpnmnogddaaGreatDoor.U
namespace Go.Proofs.YtfdbbpnmnogddaaGreatDoor.U
open Go.RowKit Go.Proofs.YtfdbbpnmnogddaaGreatDoor.Pr Go.Proofs.YtfdbbpnmnogddaaGreatDoorW.PrintWords Go.Proofs.YtfdbbpnmnogddaaGreatDoorW.PrintLast Go.Proofs.YtfdbbpnmnogddaaGreatDoorW.PrintMore
set_option linter.unusedVariables false
set_option linter.unusedSimpArgs false
def sm61 (x:S61):Prop:=(x.f1.length<=1048576/\∀ y∈x.f1,sm102 y)
def cv61 (x:S61):S44:=⟨x.f0,x.f1.map cv102,x.f2⟩
theorem toExemplar (x:S61)(hx:sm61 x):Ev (fun k=>laws_toExemplar.f k x.f0 x.f1 x.f2) (x.f0,x.f1.map cv102,x.f2):=by
 have h1:(x.f1.length<=1048576/\∀ y∈x.f1,sm102 y):=hx
 unfold laws_toExemplar.f
 refine ev_bind (toLabelS _ h1) ?_
 exact ev_now _
def se44 (x:S44):Prop:=(x.f1.length<=1048576)
theorem eqExemplar (x:S44)(hx:se44 x):Ev (fun k=>laws_eqExemplar.f k x.f0 x.f1 x.f2 x.f0 x.f1 x.f2) true:=by
 have h1:=hx
 unfold laws_eqExemplar.f
 refine ev_neg (by simp) ?_
 refine ev_bind (eqLabelS _ h1) ?_
 refine ev_pos rfl ?_
 refine ev_pos rfl ?_
 exact ev_now _
def sw61 (x:S61):Prop:=(x.f1.length<=maxLen/\∀ y∈x.f1,sw102 y)
theorem szExemplar (x:S61)(c:Int)(h0:0<=c)(h1:c<=1048576)(hw:sw61 x):∃ r,Ev (fun k=>laws_szExemplar.f k x.f0 x.f1 x.f2 c) r/\r<=c/\(0<=r->sm61 x):=by
 have w1:=hw
 unfold laws_szExemplar.f
 obtain ⟨r1,e1,q1,s1⟩:=szLabelS x.f1 c (by omega) (by omega) w1.1 w1.2
 by_cases n1:r1<0
 ·exact ⟨-1,ev_bind e1 (ev_pos n1 (ev_now _)),by omega,fun h=>absurd h (by decide)⟩
 ·skip
  exact ⟨_,ev_bind e1 (ev_neg n1 (ev_now _)),by omega,fun _=>s1 (by omega)⟩
end Go.Proofs.YtfdbbpnmnogddaaGreatDoor.U
namespace Go.Proofs.YtfdbbpnmnogddaaGreatDoor.U
open Go.RowKit Go.Proofs.YtfdbbpnmnogddaaGreatDoor.Pr Go.Proofs.YtfdbbpnmnogddaaGreatDoorW.PrintWords Go.Proofs.YtfdbbpnmnogddaaGreatDoorW.PrintLast Go.Proofs.YtfdbbpnmnogddaaGreatDoorW.PrintMore
set_option linter.unusedVariables false
set_option linter.unusedSimpArgs false
def sm63 (x:S63):Prop:=x.f0.size<=1048576/\(x.f1.length<=1048576/\∀ y∈x.f1,sm102 y)/\sm61 x.f5
def cv63 (x:S63):S46:=⟨x.f0,x.f1.map cv102,x.f2,x.f3,x.f4,cv61 x.f5⟩
theorem toPoint (x:S63)(hx:sm63 x):Ev (fun k=>laws_toPoint.f k x.f0 x.f1 x.f2 x.f3 x.f4 x.f5.f0 x.f5.f1 x.f5.f2) (x.f0,x.f1.map cv102,x.f2,x.f3,x.f4,x.f5.f0,x.f5.f1.map cv102,x.f5.f2):=by
 obtain ⟨h0,h1,h5⟩:=hx
 unfold laws_toPoint.f
 refine ev_bind (toLabelS _ h1) ?_
 refine ev_bind (toExemplar x.f5 h5) ?_
 exact ev_now _
def se46 (x:S46):Prop:=(x.f1.length<=1048576)/\(se44 x.f5)
theorem eqPoint (x:S46)(hx:se46 x):Ev (fun k=>laws_eqPoint.f k x.f0 x.f1 x.f2 x.f3 x.f4 x.f5.f0 x.f5.f1 x.f5.f2 x.f0 x.f1 x.f2 x.f3 x.f4 x.f5.f0 x.f5.f1 x.f5.f2) true:=by
 obtain ⟨h1,h5⟩:=hx
 unfold laws_eqPoint.f
 refine ev_pos rfl ?_
 refine ev_bind (eqLabelS _ h1) ?_
 refine ev_pos rfl ?_
 refine ev_pos rfl ?_
 refine ev_neg (by simp) ?_
 refine ev_pos rfl ?_
 refine ev_bind (eqExemplar x.f5 h5) ?_
 refine ev_pos rfl ?_
 exact ev_now _
def sw63 (x:S63):Prop:=(x.f0.size<=maxLen)/\(x.f1.length<=maxLen/\∀ y∈x.f1,sw102 y)/\(sw61 x.f5)
theorem szPoint (x:S63)(c:Int)(h0:0<=c)(h1:c<=1048576)(hw:sw63 x):∃ r,Ev (fun k=>laws_szPoint.f k x.f0 x.f1 x.f2 x.f3 x.f4 x.f5.f0 x.f5.f1 x.f5.f2 c) r/\r<=c/\(0<=r->sm63 x):=by
 obtain ⟨w0,w1,w5⟩:=hw
 unfold laws_szPoint.f
 simp only [maxLen] at w0
 rw [w64 (x:=c-(x.f0.size:Int)) (by omega) (by omega)]
 by_cases n0:c-(x.f0.size:Int)<0
 ·exact ⟨-1,ev_pos n0 (ev_now _),by omega,fun h=>absurd h (by decide)⟩
 ·skip
  obtain ⟨r1,e1,q1,s1⟩:=szLabelS x.f1 ((c-(x.f0.size:Int))) (by omega) (by omega) w1.1 w1.2
  by_cases n1:r1<0
  ·exact ⟨-1,ev_neg n0 (ev_bind e1 (ev_pos n1 (ev_now _))),by omega,fun h=>absurd h (by decide)⟩
  ·skip
   obtain ⟨r5,e5,q5,s5⟩:=szExemplar x.f5 r1 (by omega) (by omega) w5
   by_cases n5:r5<0
   ·exact ⟨-1,ev_neg n0 (ev_bind e1 (ev_neg n1 (ev_bind e5 (ev_pos n5 (ev_now _))))),by omega,fun h=>absurd h (by decide)⟩
   ·skip
    exact ⟨_,ev_neg n0 (ev_bind e1 (ev_neg n1 (ev_bind e5 (ev_neg n5 (ev_now _))))),by omega,fun _=>⟨by omega,s1 (by omega),s5 (by omega)⟩⟩
end Go.Proofs.YtfdbbpnmnogddaaGreatDoor.U
namespace Go.Proofs.YtfdbbpnmnogddaaGreatDoor.U
open Go.RowKit Go.Proofs.YtfdbbpnmnogddaaGreatDoor.Pr Go.Proofs.YtfdbbpnmnogddaaGreatDoorW.PrintWords Go.Proofs.YtfdbbpnmnogddaaGreatDoorW.PrintLast Go.Proofs.YtfdbbpnmnogddaaGreatDoorW.PrintMore
set_option linter.unusedVariables false
set_option linter.unusedSimpArgs false
theorem toPointS (l:List (S63))(hl:(l.length<=1048576/\∀ y∈l,sm63 y)):Ev (fun k=>laws_toPointS.f k l) (l.map cv63):=by
 obtain ⟨hl,hs⟩:=hl
 unfold laws_toPointS.f
 repeat (first|(with_reducible refine ev_pos (by first|omega|rfl|decide) ?_)|(with_reducible refine ev_neg (by first|omega|decide) ?_))
 have key:=ev_copy (F:=fun k y i=>laws_toPointS.l0 k l y i) cv63 l (List.replicate ((l.length:Int):Int).toNat z46) (by simp) ?step ?done
 case step =>
  intro i h y r hy hr
  refine ev_step (fun _=>laws_toPointS.l0.eq_2 ..) ?_
  repeat (first|(with_reducible refine ev_pos (by first|omega|rfl|decide) ?_)|(with_reducible refine ev_neg (by first|omega|decide) ?_))
  rw [(show rd_T63 l (i:Int)=l[i] from getD_lt h)]
  refine ev_bind (toPoint l[i] (hs _ (List.getElem_mem h))) ?_
  repeat (first|(with_reducible refine ev_pos (by first|omega|rfl|decide) ?_)|(with_reducible refine ev_neg (by first|omega|decide) ?_))
  rw [w64n h (by omega),Int.toNat_natCast]
  exact hr
 case done =>
  intro y hy
  refine ev_step (fun _=>laws_toPointS.l0.eq_2 ..) ?_
  repeat (first|(with_reducible refine ev_pos (by first|omega|rfl|decide) ?_)|(with_reducible refine ev_neg (by first|omega|decide) ?_))
  exact ev_now _
 exact key
theorem eqPointS (l:List (S46))(hl:l.length<=1048576)(hs:∀ x∈l,se46 x):Ev (fun k=>laws_eqPointS.f k l l) true:=by
 unfold laws_eqPointS.f
 refine ev_pos rfl ?_
 refine up_ind l.length (fun i=>Ev (fun k=>laws_eqPointS.l0 k l l (i:Int)) true) ?_ ?_ 0 (by omega)
 ·refine ev_step (fun _=>laws_eqPointS.l0.eq_2 ..) ?_
  refine ev_neg (by omega) ?_
  exact ev_now _
 ·intro i h ih
  refine ev_step (fun _=>laws_eqPointS.l0.eq_2 ..) ?_
  repeat (first|(with_reducible refine ev_pos (by first|omega|rfl|decide) ?_)|(with_reducible refine ev_neg (by first|omega|decide) ?_))
  rw [(show rd_T46 l (i:Int)=l[i] from getD_lt h)]
  refine ev_bind (eqPoint l[i] (hs _ (List.getElem_mem h))) ?_
  refine ev_pos rfl ?_
  rw [w64n h (by omega)]
  exact ih
theorem szPointS (l:List (S63))(c:Int)(h0:0<=c)(h1:c<=1048576)(hl:l.length<=maxLen)(hw:∀ x∈l,sw63 x):∃ r,Ev (fun k=>laws_szPointS.f k l c) r/\r<=c/\(0<=r->(l.length<=1048576/\∀ y∈l,sm63 y)):=by
 simp only [maxLen] at hl
 unfold laws_szPointS.f
 rw [w64 (x:=c-(l.length:Int)) (by omega) (by omega)]
 by_cases hn:c-(l.length:Int)<0
 ·exact ⟨-1,ev_pos hn (ev_now _),by omega,fun h=>absurd h (by decide)⟩
 ·have key:=up_ind l.length (fun i=>∀ c:Int,0<=c->c<=1048576->∃ r,Ev (fun k=>laws_szPointS.l0 k l c (i:Int)) r/\r<=c/\(0<=r->∀ j (h:j<l.length),i<=j->sm63 l[j])) ?d ?s 0 (by omega) (c-(l.length:Int)) (by omega) (by omega)
  case d=>exact fun c h0 h1=>⟨c,ev_step (fun _=>laws_szPointS.l0.eq_2 ..) (ev_neg (by omega) (ev_now _)),Int.le_refl _,fun _ j h hj=>by omega⟩
  case s =>
   intro i h ih c h0 h1
   obtain ⟨r1,e1,hr1,hs1⟩:=szPoint l[i] c h0 h1 (hw _ (List.getElem_mem h))
   by_cases hr:r1<0
   ·refine ⟨-1,ev_step (fun _=>laws_szPointS.l0.eq_2 ..) ?_,by omega,fun h=>absurd h (by decide)⟩
    repeat (first|(with_reducible refine ev_pos (by first|omega|rfl|decide) ?_)|(with_reducible refine ev_neg (by first|omega|decide) ?_))
    rw [(show rd_T63 l (i:Int)=l[i] from getD_lt h)]
    exact ev_bind e1 (ev_pos hr (ev_now _))
   ·obtain ⟨r,e,hrc,hs⟩:=ih (r1) (by omega) (by omega)
    refine ⟨r,ev_step (fun _=>laws_szPointS.l0.eq_2 ..) ?_,by omega,fun h2 j hj hij => ?_⟩
    ·repeat (first|(with_reducible refine ev_pos (by first|omega|rfl|decide) ?_)|(with_reducible refine ev_neg (by first|omega|decide) ?_))
     rw [(show rd_T63 l (i:Int)=l[i] from getD_lt h)]
     refine ev_bind e1 (ev_neg hr ?_)
     rw [w64n h (by omega)]
     exact e
    ·by_cases ej:j=i
     ·subst ej
      exact hs1 (by omega)
     ·exact hs h2 j hj (by omega)
  obtain ⟨r,e,hrc,hs⟩:=key
  refine ⟨r,ev_neg hn e,by omega,fun h=>⟨by omega,fun y hy => ?_⟩⟩
  obtain ⟨j,hj,rfl⟩:=List.getElem_of_mem hy
  exact hs h j hj (by omega)
end Go.Proofs.YtfdbbpnmnogddaaGreatDoor.U
namespace Go.Proofs.YtfdbbpnmnogddaaGreatDoor.U
open Go.RowKit Go.Proofs.YtfdbbpnmnogddaaGreatDoor.Pr Go.Proofs.YtfdbbpnmnogddaaGreatDoorW.PrintWords Go.Proofs.YtfdbbpnmnogddaaGreatDoorW.PrintLast Go.Proofs.YtfdbbpnmnogddaaGreatDoorW.PrintMore
set_option linter.unusedVariables false
set_option linter.unusedSimpArgs false
def sm24 (x:S24):Prop:=x.f0.size<=1048576/\x.f2.size<=1048576/\(x.f3.length<=1048576/\∀ y∈x.f3,sm63 y)
def cv24 (x:S24):S29:=⟨x.f0,x.f1,x.f2,x.f3.map cv63⟩
theorem toFamily (x:S24)(hx:sm24 x):Ev (fun k=>laws_toFamily.f k x.f0 x.f1 x.f2 x.f3) (x.f0,x.f1,x.f2,x.f3.map cv63):=by
 obtain ⟨h0,h2,h3⟩:=hx
 unfold laws_toFamily.f
 refine ev_bind (toPointS _ h3) ?_
 exact ev_now _
def se29 (x:S29):Prop:=(x.f3.length<=1048576/\∀ y∈x.f3,se46 y)
theorem eqFamily (x:S29)(hx:se29 x):Ev (fun k=>laws_eqFamily.f k x.f0 x.f1 x.f2 x.f3 x.f0 x.f1 x.f2 x.f3) true:=by
 have h3:=hx
 unfold laws_eqFamily.f
 refine ev_pos rfl ?_
 refine ev_pos rfl ?_
 refine ev_pos rfl ?_
 refine ev_bind (eqPointS _ h3.1 h3.2) ?_
 refine ev_pos rfl ?_
 exact ev_now _
def sw24 (x:S24):Prop:=(x.f0.size<=maxLen)/\(x.f2.size<=maxLen)/\(x.f3.length<=maxLen/\∀ y∈x.f3,sw63 y)
theorem szFamily (x:S24)(c:Int)(h0:0<=c)(h1:c<=1048576)(hw:sw24 x):∃ r,Ev (fun k=>laws_szFamily.f k x.f0 x.f1 x.f2 x.f3 c) r/\r<=c/\(0<=r->sm24 x):=by
 obtain ⟨w0,w2,w3⟩:=hw
 unfold laws_szFamily.f
 simp only [maxLen] at w0
 rw [w64 (x:=c-(x.f0.size:Int)) (by omega) (by omega)]
 by_cases n0:c-(x.f0.size:Int)<0
 ·exact ⟨-1,ev_pos n0 (ev_now _),by omega,fun h=>absurd h (by decide)⟩
 ·skip
  simp only [maxLen] at w2
  rw [w64 (x:=(c-(x.f0.size:Int))-(x.f2.size:Int)) (by omega) (by omega)]
  by_cases n2:(c-(x.f0.size:Int))-(x.f2.size:Int)<0
  ·exact ⟨-1,ev_neg n0 (ev_pos n2 (ev_now _)),by omega,fun h=>absurd h (by decide)⟩
  ·skip
   obtain ⟨r3,e3,q3,s3⟩:=szPointS x.f3 (((c-(x.f0.size:Int))-(x.f2.size:Int))) (by omega) (by omega) w3.1 w3.2
   by_cases n3:r3<0
   ·exact ⟨-1,ev_neg n0 (ev_neg n2 (ev_bind e3 (ev_pos n3 (ev_now _)))),by omega,fun h=>absurd h (by decide)⟩
   ·skip
    exact ⟨_,ev_neg n0 (ev_neg n2 (ev_bind e3 (ev_neg n3 (ev_now _)))),by omega,fun _=>⟨by omega,by omega,s3 (by omega)⟩⟩
end Go.Proofs.YtfdbbpnmnogddaaGreatDoor.U
namespace Go.Proofs.YtfdbbpnmnogddaaGreatDoor.U
open Go.RowKit Go.Proofs.YtfdbbpnmnogddaaGreatDoor.Pr Go.Proofs.YtfdbbpnmnogddaaGreatDoorW.PrintWords Go.Proofs.YtfdbbpnmnogddaaGreatDoorW.PrintLast Go.Proofs.YtfdbbpnmnogddaaGreatDoorW.PrintMore
set_option linter.unusedVariables false
set_option linter.unusedSimpArgs false
theorem toFamilyS (l:List (S24))(hl:(l.length<=1048576/\∀ y∈l,sm24 y)):Ev (fun k=>laws_toFamilyS.f k l) (l.map cv24):=by
 obtain ⟨hl,hs⟩:=hl
 unfold laws_toFamilyS.f
 repeat (first|(with_reducible refine ev_pos (by first|omega|rfl|decide) ?_)|(with_reducible refine ev_neg (by first|omega|decide) ?_))
 have key:=ev_copy (F:=fun k y i=>laws_toFamilyS.l0 k l y i) cv24 l (List.replicate ((l.length:Int):Int).toNat z29) (by simp) ?step ?done
 case step =>
  intro i h y r hy hr
  refine ev_step (fun _=>laws_toFamilyS.l0.eq_2 ..) ?_
  repeat (first|(with_reducible refine ev_pos (by first|omega|rfl|decide) ?_)|(with_reducible refine ev_neg (by first|omega|decide) ?_))
  rw [(show rd_T24 l (i:Int)=l[i] from getD_lt h)]
  refine ev_bind (toFamily l[i] (hs _ (List.getElem_mem h))) ?_
  repeat (first|(with_reducible refine ev_pos (by first|omega|rfl|decide) ?_)|(with_reducible refine ev_neg (by first|omega|decide) ?_))
  rw [w64n h (by omega),Int.toNat_natCast]
  exact hr
 case done =>
  intro y hy
  refine ev_step (fun _=>laws_toFamilyS.l0.eq_2 ..) ?_
  repeat (first|(with_reducible refine ev_pos (by first|omega|rfl|decide) ?_)|(with_reducible refine ev_neg (by first|omega|decide) ?_))
  exact ev_now _
 exact key
theorem eqFamilyS (l:List (S29))(hl:l.length<=1048576)(hs:∀ x∈l,se29 x):Ev (fun k=>laws_eqFamilyS.f k l l) true:=by
 unfold laws_eqFamilyS.f
 refine ev_pos rfl ?_
 refine up_ind l.length (fun i=>Ev (fun k=>laws_eqFamilyS.l0 k l l (i:Int)) true) ?_ ?_ 0 (by omega)
 ·refine ev_step (fun _=>laws_eqFamilyS.l0.eq_2 ..) ?_
  refine ev_neg (by omega) ?_
  exact ev_now _
 ·intro i h ih
  refine ev_step (fun _=>laws_eqFamilyS.l0.eq_2 ..) ?_
  repeat (first|(with_reducible refine ev_pos (by first|omega|rfl|decide) ?_)|(with_reducible refine ev_neg (by first|omega|decide) ?_))
  rw [(show rd_T29 l (i:Int)=l[i] from getD_lt h)]
  refine ev_bind (eqFamily l[i] (hs _ (List.getElem_mem h))) ?_
  refine ev_pos rfl ?_
  rw [w64n h (by omega)]
  exact ih
theorem szFamilyS (l:List (S24))(c:Int)(h0:0<=c)(h1:c<=1048576)(hl:l.length<=maxLen)(hw:∀ x∈l,sw24 x):∃ r,Ev (fun k=>laws_szFamilyS.f k l c) r/\r<=c/\(0<=r->(l.length<=1048576/\∀ y∈l,sm24 y)):=by
 simp only [maxLen] at hl
 unfold laws_szFamilyS.f
 rw [w64 (x:=c-(l.length:Int)) (by omega) (by omega)]
 by_cases hn:c-(l.length:Int)<0
 ·exact ⟨-1,ev_pos hn (ev_now _),by omega,fun h=>absurd h (by decide)⟩
 ·have key:=up_ind l.length (fun i=>∀ c:Int,0<=c->c<=1048576->∃ r,Ev (fun k=>laws_szFamilyS.l0 k l c (i:Int)) r/\r<=c/\(0<=r->∀ j (h:j<l.length),i<=j->sm24 l[j])) ?d ?s 0 (by omega) (c-(l.length:Int)) (by omega) (by omega)
  case d=>exact fun c h0 h1=>⟨c,ev_step (fun _=>laws_szFamilyS.l0.eq_2 ..) (ev_neg (by omega) (ev_now _)),Int.le_refl _,fun _ j h hj=>by omega⟩
  case s =>
   intro i h ih c h0 h1
   obtain ⟨r1,e1,hr1,hs1⟩:=szFamily l[i] c h0 h1 (hw _ (List.getElem_mem h))
   by_cases hr:r1<0
   ·refine ⟨-1,ev_step (fun _=>laws_szFamilyS.l0.eq_2 ..) ?_,by omega,fun h=>absurd h (by decide)⟩
    repeat (first|(with_reducible refine ev_pos (by first|omega|rfl|decide) ?_)|(with_reducible refine ev_neg (by first|omega|decide) ?_))
    rw [(show rd_T24 l (i:Int)=l[i] from getD_lt h)]
    exact ev_bind e1 (ev_pos hr (ev_now _))
   ·obtain ⟨r,e,hrc,hs⟩:=ih (r1) (by omega) (by omega)
    refine ⟨r,ev_step (fun _=>laws_szFamilyS.l0.eq_2 ..) ?_,by omega,fun h2 j hj hij => ?_⟩
    ·repeat (first|(with_reducible refine ev_pos (by first|omega|rfl|decide) ?_)|(with_reducible refine ev_neg (by first|omega|decide) ?_))
     rw [(show rd_T24 l (i:Int)=l[i] from getD_lt h)]
     refine ev_bind e1 (ev_neg hr ?_)
     rw [w64n h (by omega)]
     exact e
    ·by_cases ej:j=i
     ·subst ej
      exact hs1 (by omega)
     ·exact hs h2 j hj (by omega)
  obtain ⟨r,e,hrc,hs⟩:=key
  refine ⟨r,ev_neg hn e,by omega,fun h=>⟨by omega,fun y hy => ?_⟩⟩
  obtain ⟨j,hj,rfl⟩:=List.getElem_of_mem hy
  exact hs h j hj (by omega)
end Go.Proofs.YtfdbbpnmnogddaaGreatDoor.U
namespace Go.Proofs.YtfdbbpnmnogddaaGreatDoor.U
open Go.RowKit Go.Proofs.YtfdbbpnmnogddaaGreatDoor.Pr Go.Proofs.YtfdbbpnmnogddaaGreatDoorW.PrintWords Go.Proofs.YtfdbbpnmnogddaaGreatDoorW.PrintLast Go.Proofs.YtfdbbpnmnogddaaGreatDoorW.PrintMore
set_option linter.unusedVariables false
set_option linter.unusedSimpArgs false
abbrev Y (s:ByteArray):List UInt8:=s.data.toList
theorem Y_eq {s:ByteArray}:s.toList=Y s:=ByteArray.toList_eq s
theorem Y_len (s:ByteArray):(Y s).length=s.size:=Array.length_toList
theorem Y_inj {s t:ByteArray}(h:Y s=Y t):s=t:=by
 cases s
 cases t
 congr
 exact Array.toList_inj.1 h
theorem bt_at {s:ByteArray}{i:Nat}(h:i<s.size):bt s (i:Int)=(((Y s)[i]'(by rw [Y_len];exact h)).toNat:Int):=by
 unfold bt
 rw [dif_pos (show ((i:Int)).toNat<s.size from by omega)]
 rfl
theorem Y_drop {s:ByteArray}{i:Nat}(h:i<s.size):(Y s).drop i=(Y s)[i]'(by rw [Y_len];exact h)::(Y s).drop (i+1):=List.drop_eq_getElem_cons _
theorem Y_drop_end (s:ByteArray):(Y s).drop s.size=[]:=by rw [← Y_len,List.drop_length]
def digC (c:UInt8):Bool:=decide (48<=(c.toNat:Int))&&decide ((c.toNat:Int)<=57)
def letC (c:UInt8):Bool:=decide (97<=(c.toNat:Int))&&decide ((c.toNat:Int)<=122)||decide (65<=(c.toNat:Int))&&decide ((c.toNat:Int)<=90)
def wordC (c:UInt8):Bool:=letC c||digC c||decide ((c.toNat:Int)=95)
def prC (c:UInt8):Bool:=decide (32<=(c.toNat:Int))&&decide ((c.toNat:Int)<=126)
def nameL (l:List UInt8):Bool:=decide (1<=l.length)&&decide (l.length<=40) && !(l.head?.any digC)&&l.all wordC
def prL (n:Nat)(l:List UInt8):Bool:=decide (l.length<=n)&&l.all prC
def valL (l:List UInt8):Bool:=decide (1<=l.length)&&prL 100 l
def cmpL:List UInt8->List UInt8->Int
 | [],[]=>0
 | [],_::_ => -1
 | _::_,[]=>1
 | a::l,b::m=>if (a.toNat:Int)=(b.toNat:Int) then cmpL l m else if (a.toNat:Int)<(b.toNat:Int) then -1 else 1
end Go.Proofs.YtfdbbpnmnogddaaGreatDoor.U
namespace Go.Proofs.YtfdbbpnmnogddaaGreatDoor.U
open Go.RowKit Go.Proofs.YtfdbbpnmnogddaaGreatDoor.Pr Go.Proofs.YtfdbbpnmnogddaaGreatDoorW.PrintWords Go.Proofs.YtfdbbpnmnogddaaGreatDoorW.PrintLast Go.Proofs.YtfdbbpnmnogddaaGreatDoorW.PrintMore
set_option linter.unusedVariables false
set_option linter.unusedSimpArgs false
theorem printed_spec (s:ByteArray)(hs:s.size<=9223372036854775807):Ev (fun k=>spec_l2Printed.f k s) ((Y s).all prC):=by
 refine up_ind s.size (fun i=>Ev (fun k=>spec_l2Printed.l0 k s (i:Int)) (((Y s).drop i).all prC)) ?_ ?_ 0 (by omega)
 ·rw [Y_drop_end]
  exact ev_step (fun _=>spec_l2Printed.l0.eq_2 ..) (ev_neg (by omega) (ev_now _))
 ·intro i h ih
  refine ev_step (fun _=>spec_l2Printed.l0.eq_2 ..) (ev_pos (by omega) (ev_pos (by omega) ?_))
  rw [bt_at h,Y_drop h,List.all_cons,w64n h hs]
  unfold prC
  refine ev_ite (fun h1 => ?_) (fun h1=>ev_ite (fun h2 => ?_) (fun h2 => ?_))
  ·rw [decide_eq_false (by omega)]
   exact ev_now _
  ·rw [decide_eq_false (show ¬ _<=(126:Int) from by omega),Bool.and_false,Bool.false_and]
   exact ev_now _
  ·rw [decide_eq_true (by omega),decide_eq_true (by omega)]
   exact ih
theorem printed_impl (s:ByteArray)(hs:s.size<=9223372036854775807)(n:Nat):Ev (fun k=>impl_printed.f k s (n:Int)) (prL n (Y s)):=by
 unfold impl_printed.f prL
 rw [Y_len]
 refine ev_ite (fun h => ?_) (fun h => ?_)
 ·rw [decide_eq_false (by omega)]
  exact ev_now _
 ·rw [decide_eq_true (by omega),Bool.true_and]
  refine up_ind s.size (fun i=>Ev (fun k=>impl_printed.l0 k s (s.size:Int) (i:Int)) (((Y s).drop i).all prC)) ?_ ?_ 0 (by omega)
  ·rw [Y_drop_end]
   exact ev_step (fun _=>impl_printed.l0.eq_2 ..) (ev_neg (by omega) (ev_now _))
  ·intro i h ih
   refine ev_step (fun _=>impl_printed.l0.eq_2 ..) (ev_pos (by omega) (ev_pos (by omega) (ev_pos (by omega) ?_)))
   rw [bt_at h,Y_drop h,List.all_cons,w64n h hs]
   unfold prC
   refine ev_ite (fun h1 => ?_) (fun h1=>ev_ite (fun h2 => ?_) (fun h2 => ?_))
   ·rw [decide_eq_false (by omega)]
    exact ev_now _
   ·rw [decide_eq_false (show ¬ _<=(126:Int) from by omega),Bool.and_false,Bool.false_and]
    exact ev_now _
   ·rw [decide_eq_true (by omega),decide_eq_true (by omega)]
    exact ih
end Go.Proofs.YtfdbbpnmnogddaaGreatDoor.U
namespace Go.Proofs.YtfdbbpnmnogddaaGreatDoor.U
open Go.RowKit Go.Proofs.YtfdbbpnmnogddaaGreatDoor.Pr Go.Proofs.YtfdbbpnmnogddaaGreatDoorW.PrintWords Go.Proofs.YtfdbbpnmnogddaaGreatDoorW.PrintLast Go.Proofs.YtfdbbpnmnogddaaGreatDoorW.PrintMore
set_option linter.unusedVariables false
set_option linter.unusedSimpArgs false
theorem digit_impl (c:UInt8):impl_digitByte.f (c.toNat:Int)=some (digC c):=by
 unfold impl_digitByte.f digC
 by_cases h:(c.toNat:Int)>=48
 ·rw [if_pos h,decide_eq_true (show 48<=(c.toNat:Int) from h),Bool.true_and]
 ·rw [if_neg h,decide_eq_false (show ¬ 48<=(c.toNat:Int) from h),Bool.false_and]
theorem digit_spec (c:UInt8):spec_l2Digit.f (c.toNat:Int)=some (digC c):=by
 unfold spec_l2Digit.f digC
 by_cases h:(c.toNat:Int)>=48
 ·rw [if_pos h,decide_eq_true (show 48<=(c.toNat:Int) from h),Bool.true_and]
 ·rw [if_neg h,decide_eq_false (show ¬ 48<=(c.toNat:Int) from h),Bool.false_and]
theorem letter_impl (c:UInt8):impl_letterByte.f (c.toNat:Int)=some (letC c):=by
 unfold impl_letterByte.f letC
 by_cases h:(c.toNat:Int)>=97 <;> by_cases h1:(c.toNat:Int)<=122 <;> by_cases h2:(c.toNat:Int)>=65 <;> by_cases h3:(c.toNat:Int)<=90 <;> simp [h,h1,h2,h3] <;> omega
theorem letter_spec (c:UInt8):spec_l2Letter.f (c.toNat:Int)=some (letC c):=by
 unfold spec_l2Letter.f letC
 by_cases h:(c.toNat:Int)>=97 <;> by_cases h1:(c.toNat:Int)<=122 <;> by_cases h2:(c.toNat:Int)>=65 <;> by_cases h3:(c.toNat:Int)<=90 <;> simp [h,h1,h2,h3] <;> omega
theorem word_impl (c:UInt8):impl_wordByte.f (c.toNat:Int)=some (wordC c):=by
 unfold impl_wordByte.f wordC
 rw [letter_impl,digit_impl]
 cases letC c <;> cases digC c <;> simp <;> rfl
theorem name_loop_impl (s:ByteArray)(hs:s.size<=9223372036854775807):Ev (fun k=>impl_isName.l0 k s (s.size:Int) 0) ((Y s).all wordC):=by
 refine up_ind s.size (fun i=>Ev (fun k=>impl_isName.l0 k s (s.size:Int) (i:Int)) (((Y s).drop i).all wordC)) ?_ ?_ 0 (by omega)
 ·rw [Y_drop_end]
  exact ev_step (fun _=>impl_isName.l0.eq_2 ..) (ev_neg (by omega) (ev_now _))
 ·intro i h ih
  refine ev_step (fun _=>impl_isName.l0.eq_2 ..) (ev_pos (by omega) (ev_pos (by omega) (ev_pos (by omega) ?_)))
  rw [bt_at h,Y_drop h,List.all_cons,w64n h hs]
  refine ev_bind (ev_eq (word_impl _)) (ev_ite (fun h1 => ?_) (fun h1 => ?_))
  ·rw [h1]
   exact ih
  ·rw [Bool.eq_false_iff.2 h1]
   exact ev_now _
theorem name_loop_spec (s:ByteArray)(hs:s.size<=9223372036854775807):Ev (fun k=>spec_l2Name.l0 k s 0) ((Y s).all wordC):=by
 refine up_ind s.size (fun i=>Ev (fun k=>spec_l2Name.l0 k s (i:Int)) (((Y s).drop i).all wordC)) ?_ ?_ 0 (by omega)
 ·rw [Y_drop_end]
  exact ev_step (fun _=>spec_l2Name.l0.eq_2 ..) (ev_neg (by omega) (ev_now _))
 ·intro i h ih
  refine ev_step (fun _=>spec_l2Name.l0.eq_2 ..) (ev_pos (by omega) (ev_pos (by omega) ?_))
  rw [bt_at h,Y_drop h,List.all_cons,w64n h hs]
  unfold wordC
  refine ev_bind (ev_eq (letter_spec _)) (ev_ite (fun h1 => ?_) (fun h1=>ev_bind (ev_eq (digit_spec _)) (ev_ite (fun h2 => ?_) (fun h2=>ev_ite (fun h3 => ?_) (fun h3 => ?_)))))
  ·rw [h1]
   exact ih
  ·rw [h2,Bool.or_true]
   exact ih
  ·rw [decide_eq_true h3,Bool.or_true]
   exact ih
  ·rw [Bool.eq_false_iff.2 h1,Bool.eq_false_iff.2 h2,decide_eq_false h3]
   exact ev_now _
theorem name_impl (s:ByteArray)(hs:s.size<=9223372036854775807):Ev (fun k=>impl_isName.f k s) (nameL (Y s)):=by
 unfold impl_isName.f nameL
 rw [Y_eq]
 refine ev_ite (fun h => ?_) (fun h => ?_)
 ·rw [h]
  exact ev_step (fun _=>impl_isName.j0.eq_2 ..) (ev_pos rfl (ev_now _))
 ·have hl:1<=(Y s).length:=by
   cases e:Y s with
   | nil=>exact absurd e h
   | cons a l=>simp
  rw [decide_eq_true hl,Y_len,Bool.true_and]
  rw [Y_len] at hl
  refine ev_ite (fun h1 => ?_) (fun h1=>ev_pos (by omega) ?_)
  ·rw [decide_eq_false (by omega)]
   exact ev_step (fun _=>impl_isName.j0.eq_2 ..) (ev_pos rfl (ev_now _))
  ·rw [decide_eq_true (by omega),Bool.true_and]
   have e0:=bt_at (s:=s) (i:=0) (by omega)
   have eh:(Y s).head? = some ((Y s)[0]'(by rw [Y_len];omega)):=by rw [List.head?_eq_getElem?,List.getElem?_eq_getElem]
   rw [show bt s 0=bt s ((0:Nat):Int) from rfl,e0,eh]
   refine ev_bind (ev_eq (digit_impl _)) (ev_step (fun _=>impl_isName.j0.eq_2 ..) (ev_ite (fun h2 => ?_) (fun h2 => ?_)))
   ·rw [Option.any_some,h2]
    exact ev_now _
   ·rw [Option.any_some,Bool.eq_false_iff.2 h2]
    exact name_loop_impl s hs
theorem name_spec (s:ByteArray)(hs:s.size<=9223372036854775807):Ev (fun k=>spec_l2Name.f k s) (nameL (Y s)):=by
 unfold spec_l2Name.f nameL
 rw [Y_len]
 refine ev_ite (fun h => ?_) (fun h => ?_)
 ·rw [decide_eq_false (by omega)]
  exact ev_step (fun _=>spec_l2Name.j0.eq_2 ..) (ev_pos rfl (ev_now _))
 ·rw [decide_eq_true (by omega),Bool.true_and]
  refine ev_ite (fun h1 => ?_) (fun h1=>ev_pos (by omega) ?_)
  ·rw [decide_eq_false (by omega)]
   exact ev_step (fun _=>spec_l2Name.j0.eq_2 ..) (ev_pos rfl (ev_now _))
  ·rw [decide_eq_true (by omega),Bool.true_and]
   have e0:=bt_at (s:=s) (i:=0) (by omega)
   have eh:(Y s).head? = some ((Y s)[0]'(by rw [Y_len];omega)):=by rw [List.head?_eq_getElem?,List.getElem?_eq_getElem]
   rw [show bt s 0=bt s ((0:Nat):Int) from rfl,e0,eh]
   refine ev_bind (ev_eq (digit_spec _)) (ev_step (fun _=>spec_l2Name.j0.eq_2 ..) (ev_ite (fun h2 => ?_) (fun h2 => ?_)))
   ·rw [Option.any_some,h2]
    exact ev_now _
   ·rw [Option.any_some,Bool.eq_false_iff.2 h2]
    exact name_loop_spec s hs
end Go.Proofs.YtfdbbpnmnogddaaGreatDoor.U
namespace Go.Proofs.YtfdbbpnmnogddaaGreatDoor.U
open Go.RowKit Go.Proofs.YtfdbbpnmnogddaaGreatDoor.Pr Go.Proofs.YtfdbbpnmnogddaaGreatDoorW.PrintWords Go.Proofs.YtfdbbpnmnogddaaGreatDoorW.PrintLast Go.Proofs.YtfdbbpnmnogddaaGreatDoorW.PrintMore
set_option linter.unusedVariables false
set_option linter.unusedSimpArgs false
def cn (a b:Int):Int:=if a<b then -1 else if a>b then 1 else 0
theorem cmpNum_spec (a b:Int):spec_l2CmpNum.f a b=some (cn a b):=by
 unfold spec_l2CmpNum.f cn
 by_cases h:a<b
 ·rw [if_pos h,if_pos h]
 ·rw [if_neg h,if_neg h]
  by_cases h':a>b
  ·rw [if_pos h',if_pos h']
  ·rw [if_neg h',if_neg h']
theorem less_cmp:∀ a b:List UInt8,Op.bytesLess a b=decide (cmpL a b<0)
 | [],[]=>rfl
 | [],_::_=>rfl
 | _::_,[]=>rfl
 | a::l,b::m=>by
  unfold Op.bytesLess cmpL
  rw [less_cmp l m]
  by_cases e:(a.toNat:Int)=(b.toNat:Int)
  ·have:a=b:=UInt8.toNat_inj.1 (by omega)
   subst this
   simp
  ·have hne:(a==b)=false:=by
    rw [beq_eq_false_iff_ne]
    rintro rfl
    exact e rfl
   rw [if_neg e,hne,Bool.false_and,Bool.or_false]
   by_cases h:(a.toNat:Int)<(b.toNat:Int)
   ·rw [if_pos h]
    have:a<b:=UInt8.lt_iff_toNat_lt.2 (by omega)
    simp [this]
   ·rw [if_neg h]
    have:¬ a<b:=fun h'=>h (by have:=UInt8.lt_iff_toNat_lt.1 h';omega)
    simp [this]
theorem cmp_spec (s t:ByteArray)(hs:s.size<=9223372036854775807)(ht:t.size<=9223372036854775807):Ev (fun k=>spec_l2CmpText.f k s t) (cmpL (Y s) (Y t)):=by
 refine up_ind (min s.size t.size) (fun i=>Ev (fun k=>spec_l2CmpText.l0 k s t (i:Int)) (cmpL ((Y s).drop i) ((Y t).drop i))) ?_ ?_ 0 (by omega)
 ·generalize hm:min s.size t.size=m
  rcases Nat.lt_or_ge m s.size with h|h
  ·have e:m=t.size:=by omega
   refine ev_step (fun _=>spec_l2CmpText.l0.eq_2 ..) (ev_pos (by omega) ?_)
   rw [decide_eq_false (by omega)]
   refine ev_step (fun _=>spec_l2CmpText.j1.eq_2 ..) (ev_neg (by decide) (ev_bind (ev_eq (cmpNum_spec _ _)) ?_))
   rw [Y_drop h,show List.drop m (Y t)=[] from by rw [e,Y_drop_end]]
   unfold cn cmpL
   rw [if_neg (by omega),if_pos (by omega)]
   exact ev_now _
  ·have e:m=s.size:=by omega
   refine ev_step (fun _=>spec_l2CmpText.l0.eq_2 ..) (ev_neg (by omega) ?_)
   refine ev_step (fun _=>spec_l2CmpText.j1.eq_2 ..) (ev_neg (by decide) (ev_bind (ev_eq (cmpNum_spec _ _)) ?_))
   rw [e,Y_drop_end]
   by_cases h2:s.size<t.size
   ·rw [Y_drop h2]
    unfold cn cmpL
    rw [if_pos (by omega)]
    exact ev_now _
   ·have e2:s.size=t.size:=by omega
    rw [e2,Y_drop_end]
    unfold cn cmpL
    rw [if_neg (by omega),if_neg (by omega)]
    exact ev_now _
 ·intro i h ih
  have h1:i<s.size:=by omega
  have h2:i<t.size:=by omega
  refine ev_step (fun _=>spec_l2CmpText.l0.eq_2 ..) (ev_pos (by omega) ?_)
  rw [decide_eq_true (by omega)]
  refine ev_step (fun _=>spec_l2CmpText.j1.eq_2 ..) (ev_pos rfl (ev_pos (by omega) (ev_pos (by omega) (ev_pos (by omega) ?_))))
  rw [bt_at h1,bt_at h2,Y_drop h1,Y_drop h2,w64n h1 hs]
  have a1:=((Y s)[i]'(by rw [Y_len];exact h1)).toNat_lt
  have a2:=((Y t)[i]'(by rw [Y_len];exact h2)).toNat_lt
  rw [w64 (x:=(((Y s)[i]'(by rw [Y_len];exact h1)).toNat:Int)) (by omega) (by omega),w64 (x:=(((Y t)[i]'(by rw [Y_len];exact h2)).toNat:Int)) (by omega) (by omega)]
  unfold cmpL
  refine ev_ite (fun h3 => ?_) (fun h3 => ?_)
  ·rw [if_pos h3]
   exact ih
  ·rw [if_neg h3]
   refine ev_bind (ev_eq (cmpNum_spec _ _)) ?_
   unfold cn
   by_cases h4:(((Y s)[i]'(by rw [Y_len];exact h1)).toNat:Int)<(((Y t)[i]'(by rw [Y_len];exact h2)).toNat:Int)
   ·rw [if_pos h4,if_pos h4]
    exact ev_now _
   ·rw [if_neg h4,if_neg h4,if_pos (by omega)]
    exact ev_now _
end Go.Proofs.YtfdbbpnmnogddaaGreatDoor.U
namespace Go.Proofs.YtfdbbpnmnogddaaGreatDoor.U
open Go.RowKit Go.Proofs.YtfdbbpnmnogddaaGreatDoor.Pr Go.Proofs.YtfdbbpnmnogddaaGreatDoorW.PrintWords Go.Proofs.YtfdbbpnmnogddaaGreatDoorW.PrintLast Go.Proofs.YtfdbbpnmnogddaaGreatDoorW.PrintMore
set_option linter.unusedVariables false
set_option linter.unusedSimpArgs false
theorem value_spec (s:ByteArray)(hs:s.size<=9223372036854775807):Ev (fun k=>spec_l2Value.f k s) (valL (Y s)):=by
 unfold spec_l2Value.f valL prL
 rw [Y_len]
 refine ev_ite (fun h=>ev_ite (fun h1 => ?_) (fun h1 => ?_)) (fun h => ?_)
 ·rw [decide_eq_true (by omega),decide_eq_true (by omega),Bool.true_and,Bool.true_and]
  exact ev_bind (printed_spec s hs) (ev_now _)
 ·rw [decide_eq_false (show ¬ s.size<=100 from by omega),Bool.false_and,Bool.and_false]
  exact ev_now _
 ·rw [decide_eq_false (by omega),Bool.false_and]
  exact ev_now _
theorem value_impl (s:ByteArray)(hs:s.size<=9223372036854775807):Ev (fun k=>impl_isValue.f k s) (valL (Y s)):=by
 unfold impl_isValue.f valL
 rw [Y_eq,]
 refine ev_ite (fun h => ?_) (fun h => ?_)
 ·rw [h]
  exact ev_now _
 ·have:1<=(Y s).length:=by
   cases e:Y s with
   | nil=>exact absurd e h
   | cons a l=>simp
  rw [decide_eq_true this,Bool.true_and]
  exact ev_bind (printed_impl s hs 100) (ev_now _)
end Go.Proofs.YtfdbbpnmnogddaaGreatDoor.U
namespace Go.Proofs.YtfdbbpnmnogddaaGreatDoor.U
open Go.RowKit Go.Proofs.YtfdbbpnmnogddaaGreatDoor.Pr Go.Proofs.YtfdbbpnmnogddaaGreatDoorW.PrintWords Go.Proofs.YtfdbbpnmnogddaaGreatDoorW.PrintLast Go.Proofs.YtfdbbpnmnogddaaGreatDoorW.PrintMore
set_option linter.unusedVariables false
set_option linter.unusedSimpArgs false
def before (p:Option (List UInt8))(l:List UInt8):Bool:=match p with
 | none=>true
 | some q=>decide (cmpL q l<0)
def riseL (p:Option (List UInt8)):List S70->Bool
 | []=>true
 | x::xs=>nameL (Y x.f0)&&valL (Y x.f1)&&before p (Y x.f0)&&riseL (some (Y x.f0)) xs
def goodL (l:List S70):Bool:=decide (l.length<=20)&&riseL none l
def ptL (l:List S70)(i:Nat):Option (List UInt8):=if i=0 then none else some (Y (rd_T70 l ((i-1:Nat):Int)).f0)
def fitL (l:List S70):Prop:=l.length<=9223372036854775807/\∀ x∈l,x.f0.size<=9223372036854775807/\x.f1.size<=9223372036854775807
theorem goodLabels_impl_l (l:List S70)(hf:fitL l):Ev (fun k=>impl_GoodLabels.l0 k l l (l.length:Int) 0) (riseL none l):=by
 obtain ⟨hl,hw⟩:=hf
 have hrd:∀ (i:Nat) (h:i<l.length),rd_T70 l (i:Int)=l[i]:=fun i h=>getD_lt h
 refine up_ind l.length (fun i=>Ev (fun k=>impl_GoodLabels.l0 k l l (l.length:Int) (i:Int)) (riseL (ptL l i) (l.drop i))) ?_ ?_ 0 (by omega)
 ·rw [List.drop_length]
  exact ev_step (fun _=>impl_GoodLabels.l0.eq_2 ..) (ev_neg (by omega) (ev_now _))
 ·intro i h ih
  have hp:ptL l (i+1)=some (Y l[i].f0):=by unfold ptL;rw [if_neg (by omega),Nat.add_sub_cancel,hrd i h]
  rw [hp] at ih
  obtain ⟨w1,w2⟩:=hw l[i] (List.getElem_mem h)
  have wi:wrap64 ((i:Int)+1)=((i+1:Nat):Int):=w64n h hl
  refine ev_step (fun _=>impl_GoodLabels.l0.eq_2 ..) (ev_pos (by omega) (ev_pos (by omega) (ev_pos (by omega) ?_)))
  rw [hrd i h,List.drop_eq_getElem_cons h]
  simp only [riseL]
  refine ev_bind (name_impl _ w1) (ev_ite (fun h1=>ev_bind (value_impl _ w2) (ev_ite (fun h2 => ?_) (fun h2 => ?_))) (fun h1 => ?_))
  ·rw [h1,h2,Bool.true_and,Bool.true_and]
   by_cases hi:i=0
   ·subst hi
    rw [wi]
    exact ev_neg (by omega) ih
   ·have wm:wrap64 ((i:Int)-1)=((i-1:Nat):Int):=by rw [w64 (by omega) (by omega)];omega
    have hq:ptL l i=some (Y l[i-1].f0):=by unfold ptL;rw [if_neg hi,hrd (i-1) (by omega)]
    obtain ⟨w3,_⟩:=hw l[i-1] (List.getElem_mem (by omega))
    rw [wm,hrd (i-1) (by omega),hq,wi]
    refine ev_pos (by omega) (ev_pos (by omega) (ev_pos (by omega) ?_))
    simp only [before]
    rw [Y_eq,Y_eq,less_cmp]
    refine ev_ite (fun h3 => ?_) (fun h3 => ?_)
    ·rw [h3,Bool.true_and]
     exact ih
    ·rw [Bool.eq_false_iff.2 h3,Bool.false_and]
     exact ev_now _
  ·rw [h1,Bool.eq_false_iff.2 h2]
   exact ev_now _
  ·rw [Bool.eq_false_iff.2 h1]
   exact ev_now _
theorem goodLabels_impl (l:List S70)(hf:fitL l):Ev (fun k=>impl_GoodLabels.f k l) (goodL l):=by
 unfold impl_GoodLabels.f goodL
 refine ev_ite (fun h => ?_) (fun h => ?_)
 ·rw [decide_eq_false (by omega)]
  exact ev_now _
 ·rw [decide_eq_true (by omega),Bool.true_and]
  exact goodLabels_impl_l l hf
theorem goodLabels_spec_l (l:List S70)(hf:fitL l):Ev (fun k=>spec_GoodLabels.l0 k l l (l.length:Int) 0) (riseL none l):=by
 obtain ⟨hl,hw⟩:=hf
 have hrd:∀ (i:Nat) (h:i<l.length),rd_T70 l (i:Int)=l[i]:=fun i h=>getD_lt h
 refine up_ind l.length (fun i=>Ev (fun k=>spec_GoodLabels.l0 k l l (l.length:Int) (i:Int)) (riseL (ptL l i) (l.drop i))) ?_ ?_ 0 (by omega)
 ·rw [List.drop_length]
  exact ev_step (fun _=>spec_GoodLabels.l0.eq_2 ..) (ev_neg (by omega) (ev_now _))
 ·intro i h ih
  have hp:ptL l (i+1)=some (Y l[i].f0):=by unfold ptL;rw [if_neg (by omega),Nat.add_sub_cancel,hrd i h]
  rw [hp] at ih
  obtain ⟨w1,w2⟩:=hw l[i] (List.getElem_mem h)
  have wi:wrap64 ((i:Int)+1)=((i+1:Nat):Int):=w64n h hl
  refine ev_step (fun _=>spec_GoodLabels.l0.eq_2 ..) (ev_pos (by omega) (ev_pos (by omega) (ev_pos (by omega) ?_)))
  rw [hrd i h,List.drop_eq_getElem_cons h]
  simp only [riseL]
  refine ev_bind (name_spec _ w1) (ev_ite (fun h1=>ev_bind (value_spec _ w2) (ev_ite (fun h2 => ?_) (fun h2 => ?_))) (fun h1 => ?_))
  ·rw [h1,h2,Bool.true_and,Bool.true_and]
   by_cases hi:i=0
   ·subst hi
    rw [wi]
    exact ev_neg (by omega) ih
   ·have wm:wrap64 ((i:Int)-1)=((i-1:Nat):Int):=by rw [w64 (by omega) (by omega)];omega
    have hq:ptL l i=some (Y l[i-1].f0):=by unfold ptL;rw [if_neg hi,hrd (i-1) (by omega)]
    obtain ⟨w3,_⟩:=hw l[i-1] (List.getElem_mem (by omega))
    rw [wm,hrd (i-1) (by omega),hq,wi]
    refine ev_pos (by omega) (ev_pos (by omega) (ev_pos (by omega) ?_))
    simp only [before]
    refine ev_bind (cmp_spec _ _ w3 w1) (ev_ite (fun h3 => ?_) (fun h3 => ?_))
    ·rw [decide_eq_false (by omega),Bool.false_and]
     exact ev_now _
    ·rw [decide_eq_true (by omega),Bool.true_and]
     exact ih
  ·rw [h1,Bool.eq_false_iff.2 h2]
   exact ev_now _
  ·rw [Bool.eq_false_iff.2 h1]
   exact ev_now _
theorem goodLabels_spec (l:List S70)(hf:fitL l):Ev (fun k=>spec_GoodLabels.f k l) (goodL l):=by
 unfold spec_GoodLabels.f goodL
 refine ev_ite (fun h => ?_) (fun h => ?_)
 ·rw [decide_eq_false (by omega)]
  exact ev_now _
 ·rw [decide_eq_true (by omega),Bool.true_and]
  exact goodLabels_spec_l l hf
end Go.Proofs.YtfdbbpnmnogddaaGreatDoor.U
namespace Go.Proofs.YtfdbbpnmnogddaaGreatDoor.U
open Go.RowKit Go.Proofs.YtfdbbpnmnogddaaGreatDoor.Pr Go.Proofs.YtfdbbpnmnogddaaGreatDoorW.PrintWords Go.Proofs.YtfdbbpnmnogddaaGreatDoorW.PrintLast Go.Proofs.YtfdbbpnmnogddaaGreatDoorW.PrintMore
set_option linter.unusedVariables false
set_option linter.unusedSimpArgs false
theorem fitL_cv (l:List S102)(h:l.length<=1048576/\∀ x∈l,sm102 x):fitL (l.map cv102):=by
 refine ⟨by rw [List.length_map];omega,fun x hx => ?_⟩
 obtain ⟨y,hy,rfl⟩:=List.mem_map.1 hx
 obtain ⟨h1,h2⟩:=h.2 y hy
 exact ⟨by show y.f0.size<=_;omega,by show y.f1.size<=_;omega⟩
end Go.Proofs.YtfdbbpnmnogddaaGreatDoor.U
namespace Go.Proofs.YtfdbbpnmnogddaaGreatDoor.U
open Go.RowKit Go.Proofs.YtfdbbpnmnogddaaGreatDoor.Pr Go.Proofs.YtfdbbpnmnogddaaGreatDoorW.PrintWords Go.Proofs.YtfdbbpnmnogddaaGreatDoorW.PrintLast Go.Proofs.YtfdbbpnmnogddaaGreatDoorW.PrintMore
set_option linter.unusedVariables false
set_option linter.unusedSimpArgs false
theorem cmpL_neg:∀ a b:List UInt8,cmpL b a = - cmpL a b
 | [],[]=>rfl
 | [],_::_=>rfl
 | _::_,[]=>rfl
 | a::l,b::m=>by
  simp only [cmpL]
  by_cases e:(a.toNat:Int)=(b.toNat:Int)
  ·rw [if_pos e,if_pos e.symm]
   exact cmpL_neg l m
  ·rw [if_neg e,if_neg (fun h=>e h.symm)]
   by_cases h:(a.toNat:Int)<(b.toNat:Int)
   ·rw [if_pos h,if_neg (by omega)]
    rfl
   ·rw [if_neg h,if_pos (by omega)]
def cmpLL:List S70->List S70->Int
 | [],[]=>0
 | [],_::_ => -1
 | _::_,[]=>1
 | x::xs,y::ys=>if cmpL (Y x.f0) (Y y.f0)=0 then (if cmpL (Y x.f1) (Y y.f1)=0 then cmpLL xs ys else cmpL (Y x.f1) (Y y.f1)) else cmpL (Y x.f0) (Y y.f0)
theorem cmpLL_spec (l m:List S70)(hl:fitL l)(hm:fitL m):Ev (fun k=>spec_l2Cmp.f k l m) (cmpLL l m):=by
 have hrd:∀ (l:List S70) (i:Nat) (h:i<l.length),rd_T70 l (i:Int)=l[i]:=fun l i h=>getD_lt h
 refine up_ind (min l.length m.length) (fun i=>Ev (fun k=>spec_l2Cmp.l0 k l m (i:Int)) (cmpLL (l.drop i) (m.drop i))) ?_ ?_ 0 (by omega)
 ·generalize hq:min l.length m.length=q
  rcases Nat.lt_or_ge q l.length with h|h
  ·have e:q=m.length:=by omega
   refine ev_step (fun _=>spec_l2Cmp.l0.eq_2 ..) (ev_pos (by omega) ?_)
   rw [decide_eq_false (by omega)]
   refine ev_step (fun _=>spec_l2Cmp.j1.eq_2 ..) (ev_neg (by decide) (ev_bind (ev_eq (cmpNum_spec _ _)) ?_))
   rw [List.drop_eq_getElem_cons h,show m.drop q=[] from by rw [e,List.drop_length]]
   unfold cn cmpLL
   rw [if_neg (by omega),if_pos (by omega)]
   exact ev_now _
  ·have e:q=l.length:=by omega
   refine ev_step (fun _=>spec_l2Cmp.l0.eq_2 ..) (ev_neg (by omega) ?_)
   refine ev_step (fun _=>spec_l2Cmp.j1.eq_2 ..) (ev_neg (by decide) (ev_bind (ev_eq (cmpNum_spec _ _)) ?_))
   rw [e,List.drop_length]
   by_cases h2:l.length<m.length
   ·rw [List.drop_eq_getElem_cons h2]
    unfold cn cmpLL
    rw [if_pos (by omega)]
    exact ev_now _
   ·have e2:l.length=m.length:=by omega
    rw [e2,List.drop_length]
    unfold cn cmpLL
    rw [if_neg (by omega),if_neg (by omega)]
    exact ev_now _
 ·intro i h ih
  have h1:i<l.length:=by omega
  have h2:i<m.length:=by omega
  obtain ⟨a1,a2⟩:=hl.2 l[i] (List.getElem_mem h1)
  obtain ⟨b1,b2⟩:=hm.2 m[i] (List.getElem_mem h2)
  refine ev_step (fun _=>spec_l2Cmp.l0.eq_2 ..) (ev_pos (by omega) ?_)
  rw [decide_eq_true (by omega)]
  refine ev_step (fun _=>spec_l2Cmp.j1.eq_2 ..) (ev_pos rfl (ev_pos (by omega) (ev_pos (by omega) (ev_pos (by omega) ?_))))
  rw [hrd l i h1,hrd m i h2,List.drop_eq_getElem_cons h1,List.drop_eq_getElem_cons h2,w64n h1 hl.1]
  simp only [cmpLL]
  refine ev_bind (cmp_spec _ _ a1 b1) (ev_ite (fun h3=>ev_bind (cmp_spec _ _ a2 b2) (ev_ite (fun h4 => ?_) (fun h4 => ?_))) (fun h3 => ?_))
  ·rw [if_pos h3,if_pos h4]
   exact ih
  ·rw [if_pos h3,if_neg h4]
   exact ev_now _
  ·rw [if_neg h3]
   exact ev_now _
end Go.Proofs.YtfdbbpnmnogddaaGreatDoor.U
namespace Go.Proofs.YtfdbbpnmnogddaaGreatDoor.U
open Go.RowKit Go.Proofs.YtfdbbpnmnogddaaGreatDoor.Pr Go.Proofs.YtfdbbpnmnogddaaGreatDoorW.PrintWords Go.Proofs.YtfdbbpnmnogddaaGreatDoorW.PrintLast Go.Proofs.YtfdbbpnmnogddaaGreatDoorW.PrintMore
set_option linter.unusedVariables false
set_option linter.unusedSimpArgs false
def bs (l:List UInt8):ByteArray:=⟨l.toArray⟩
theorem Y_bs (l:List UInt8):Y (bs l)=l:=by simp [bs]
theorem bs_size (l:List UInt8):(bs l).size=l.length:=by rw [← Y_len,Y_bs]
theorem Y_app (a b:ByteArray):Y (a++b)=Y a++Y b:=by simp [ByteArray.data_append]
theorem bs_app (a b:List UInt8):bs a++bs b=bs (a++b):=Y_inj (by rw [Y_app,Y_bs,Y_bs,Y_bs])
def ints (l:List UInt8):List Int:=l.map fun c=>(c.toNat:Int)
theorem ints_len (l:List UInt8):(ints l).length=l.length:=List.length_map ..
theorem ints_two (l:List UInt8)(c:UInt8):ints l++[92]++[(c.toNat:Int)]=ints (l++[92,c]):=by simp [ints]
theorem ints_one (l:List UInt8)(c:UInt8):ints l++[(c.toNat:Int)]=ints (l++[c]):=by simp [ints]
theorem strOf_ints (l:List UInt8):strOfNums (ints l)=bs l:=by
 unfold strOfNums ints bs
 rw [List.map_map]
 congr 2
 rw [show ((fun n=>UInt8.ofNat n.toNat) ∘ fun (c:UInt8)=>(c.toNat:Int))=id from by funext c;simp,List.map_id]
def esc (c:UInt8):List UInt8:=if (c.toNat:Int)=34∨(c.toNat:Int)=92 then [92,c] else [c]
def quoteL (l:List UInt8):List UInt8:=34::(l.flatMap esc++[34])
theorem esc_len (c:UInt8):(esc c).length<=2:=by unfold esc;split <;> simp
theorem escs_len:∀ l:List UInt8,(l.flatMap esc).length<=2*l.length:=by
 intro l
 induction l with
 | nil=>simp
 | cons c l ih=>have:=esc_len c;rw [List.flatMap_cons,List.length_append,List.length_cons];omega
theorem quoteL_len (l:List UInt8):(quoteL l).length<=2*l.length+2:=by
 have:=escs_len l
 unfold quoteL
 simp only [List.length_cons,List.length_append,List.length_nil]
 omega
theorem quote_impl (s:ByteArray)(hs:s.size<=1048576):Ev (fun k=>impl_quote.f k s) (bs (quoteL (Y s))):=by
 unfold impl_quote.f
 have key:=up_ind s.size (fun i=>∀ acc:List UInt8,acc.length<=2*i+1->Ev (fun k=>impl_quote.l0 k s (ints acc) (s.size:Int) (i:Int)) (bs (acc++(((Y s).drop i).flatMap esc++[34])))) ?_ ?_ 0 (by omega) [34] (by simp)
 ·exact key
 ·intro acc ha
  rw [Y_drop_end,List.flatMap_nil,List.nil_append]
  refine ev_step (fun _=>impl_quote.l0.eq_2 ..) (ev_neg (by omega) (ev_pos (by rw [ints_len];omega) ?_))
  rw [show ints acc++[34]=ints (acc++[34]) from by simp [ints],strOf_ints]
  exact ev_now _
 ·intro i h ih acc ha
  refine ev_step (fun _=>impl_quote.l0.eq_2 ..) (ev_pos (by omega) (ev_pos (by omega) (ev_pos (by omega) ?_)))
  rw [bt_at h,Y_drop h,List.flatMap_cons,w64n h (by omega)]
  have two:(((Y s)[i]'(by rw [Y_len];exact h)).toNat:Int)=34∨(((Y s)[i]'(by rw [Y_len];exact h)).toNat:Int)=92->Ev (fun k=>if (ints acc).length<140737488355328 then ((some (ints acc++[92]:List Int)).bind fun y=>(if y.length<140737488355328 then (impl_quote.l0 k s (y++[(((Y s)[i]'(by rw [Y_len];exact h)).toNat:Int)]) (s.size:Int) ((i+1:Nat):Int)) else none)) else none) (bs (acc++(esc (Y s)[i]++((Y s).drop (i+1)).flatMap esc++[34]))):=by
   intro hc
   refine ev_pos (by rw [ints_len];omega) (ev_some (ev_pos (by rw [List.length_append,ints_len,List.length_singleton];omega) ?_))
   rw [ints_two]
   have:=ih (acc++[92,(Y s)[i]]) (by rw [List.length_append,List.length_cons,List.length_singleton];omega)
   rw [show esc _=_ from if_pos hc]
   simpa only [List.append_assoc] using this
  refine ev_ite (fun h1=>two (Or.inl h1)) (fun h1=>ev_ite (fun h2=>two (Or.inr h2)) (fun h2=>ev_pos (by rw [ints_len];omega) ?_))
  rw [ints_one]
  have:=ih (acc++[(Y s)[i]]) (by rw [List.length_append,List.length_singleton];omega)
  rw [show esc _=_ from if_neg (by rintro (e|e) <;> contradiction)]
  simpa only [List.append_assoc] using this
end Go.Proofs.YtfdbbpnmnogddaaGreatDoor.U
namespace Go.Proofs.YtfdbbpnmnogddaaGreatDoor.U
open Go.RowKit Go.Proofs.YtfdbbpnmnogddaaGreatDoor.Pr Go.Proofs.YtfdbbpnmnogddaaGreatDoorW.PrintWords Go.Proofs.YtfdbbpnmnogddaaGreatDoorW.PrintLast Go.Proofs.YtfdbbpnmnogddaaGreatDoorW.PrintMore
set_option linter.unusedVariables false
set_option linter.unusedSimpArgs false
theorem cmpL_eq:∀ a b:List UInt8,cmpL a b=0->a=b
 | [],[]=>fun _=>rfl
 | [],_::_=>fun h=>absurd h (by simp [cmpL])
 | _::_,[]=>fun h=>absurd h (by simp [cmpL])
 | a::l,b::m=>by
  intro h
  simp only [cmpL] at h
  by_cases e:(a.toNat:Int)=(b.toNat:Int)
  ·rw [if_pos e] at h
   rw [cmpL_eq l m h,UInt8.toNat_inj.1 (show a.toNat=b.toNat by omega)]
  ·rw [if_neg e] at h
   split at h <;> omega
theorem cmpL_self:∀ a:List UInt8,cmpL a a=0
 | []=>rfl
 | a::l=>by
  simp only [cmpL]
  rw [if_pos trivial]
  exact cmpL_self l
end Go.Proofs.YtfdbbpnmnogddaaGreatDoor.U
namespace Go.Proofs.YtfdbbpnmnogddaaGreatDoor.U
open Go.RowKit Go.Proofs.YtfdbbpnmnogddaaGreatDoor.Pr Go.Proofs.YtfdbbpnmnogddaaGreatDoorW.PrintWords Go.Proofs.YtfdbbpnmnogddaaGreatDoorW.PrintLast Go.Proofs.YtfdbbpnmnogddaaGreatDoorW.PrintMore
set_option linter.unusedVariables false
set_option linter.unusedSimpArgs false
def withL (n v:ByteArray):List S70->Bool->List S70->List S70
 | acc,p,[]=>if p=true then acc else acc++[⟨n,v⟩]
 | acc,p,x::xs =>
  if (!p && !(Op.bytesLess x.f0.toList n.toList))=true then (if x.f0.toList=n.toList then withL n v (acc++[⟨n,v⟩]) true xs else withL n v (acc++[⟨n,v⟩]++[x]) true xs)
  else (if x.f0.toList=n.toList then withL n v acc p xs else withL n v (acc++[x]) p xs)
theorem ev_ite2 {α:Type}{c:Prop}[d1:Decidable c][d2:Decidable c]{f g:Nat->Option α}{a b:α}(h1:c->Ev f a)(h2:¬ c->Ev g b):Ev (fun k=>if c then f k else g k) (if c then a else b):=by
 by_cases h:c
 ·rw [if_pos h];exact ev_pos h (h1 h)
 ·rw [if_neg h];exact ev_neg h (h2 h)
theorem notless_cmp (a b:ByteArray):decide (cmpL (Y a) (Y b)<=0) = !(Op.bytesLess b.toList a.toList):=by
 rw [Y_eq,Y_eq,less_cmp,cmpL_neg (Y a) (Y b)]
 by_cases h:cmpL (Y a) (Y b)<=0
 ·rw [decide_eq_true h,decide_eq_false (by omega)];rfl
 ·rw [decide_eq_false h,decide_eq_true (by omega)];rfl
theorem with_spec (l:List S70)(hf:fitL l)(hl:l.length<=1048576)(n v:ByteArray)(hn:n.size<=9223372036854775807)(p:Bool):Ev (fun k=>spec_l2With.l0 k n v [] p l (l.length:Int) 0) (withL n v [] p l):=by
 have hrd:∀ (i:Nat) (h:i<l.length),rd_T70 l (i:Int)=l[i]:=fun i h=>getD_lt h
 refine up_ind l.length (fun i=>∀ (acc:List S70) (p:Bool),acc.length+2*(l.length-i)<=4000000->Ev (fun k=>spec_l2With.l0 k n v acc p l (l.length:Int) (i:Int)) (withL n v acc p (l.drop i))) ?_ ?_ 0 (by omega) [] p (by simp;omega)
 ·intro acc p hb
  rw [List.drop_length]
  refine ev_step (fun _=>spec_l2With.l0.eq_2 ..) (ev_neg (by omega) ?_)
  simp only [withL]
  exact ev_ite2 (fun _=>ev_now _) (fun _=>ev_pos (by omega) (ev_now _))
 ·intro i h ih acc p hb
  have wi:wrap64 ((i:Int)+1)=((i+1:Nat):Int):=w64n h (by omega)
  refine ev_step (fun _=>spec_l2With.l0.eq_2 ..) (ev_pos (by omega) (ev_pos (by omega) (ev_pos (by omega) ?_)))
  rw [hrd i h,List.drop_eq_getElem_cons h]
  simp only [withL]
  cases p with
  | true =>
   refine ev_pos rfl (ev_step (fun _=>spec_l2With.j1.eq_2 ..) (ev_neg (by decide) ?_))
   rw [if_neg (by simp),wi]
   exact ev_ite2 (fun _=>ih acc true (by omega)) (fun _=>ev_pos (by omega) (ih _ true (by simp only [List.length_append,List.length_cons,List.length_nil];omega)))
  | false =>
   refine ev_neg (by decide) (ev_bind (cmp_spec _ _ hn (hf.2 l[i] (List.getElem_mem h)).1) (ev_step (fun _=>spec_l2With.j1.eq_2 ..) ?_))
   rw [notless_cmp,Bool.not_false,Bool.true_and,wi]
   refine ev_ite2 (fun _ => ?_) (fun _ => ?_)
   ·refine ev_pos (by omega) (ev_bind (ev_now _) ?_)
    exact ev_ite2 (fun _=>ih _ true (by simp only [List.length_append,List.length_cons,List.length_nil];omega)) (fun _=>ev_pos (by simp only [List.length_append,List.length_cons,List.length_nil];omega) (ih _ true (by simp only [List.length_append,List.length_cons,List.length_nil];omega)))
   ·exact ev_ite2 (fun _=>ih acc false (by omega)) (fun _=>ev_pos (by omega) (ih _ false (by simp only [List.length_append,List.length_cons,List.length_nil];omega)))
end Go.Proofs.YtfdbbpnmnogddaaGreatDoor.U
namespace Go.Proofs.YtfdbbpnmnogddaaGreatDoor.U
open Go.RowKit Go.Proofs.YtfdbbpnmnogddaaGreatDoor.Pr Go.Proofs.YtfdbbpnmnogddaaGreatDoorW.PrintWords Go.Proofs.YtfdbbpnmnogddaaGreatDoorW.PrintLast Go.Proofs.YtfdbbpnmnogddaaGreatDoorW.PrintMore
set_option linter.unusedVariables false
set_option linter.unusedSimpArgs false
def hasL (l:List ByteArray)(s:ByteArray):Bool:=l.any fun y=>decide (y.toList=s.toList)
theorem index_impl (l:List ByteArray)(hl:l.length<=1048576)(s:ByteArray):∃ r,Ev (fun k=>slices_Index_string_string.f k l s) r/\decide (r>=0)=hasL l s:=by
 unfold slices_Index_string_string.f hasL
 refine up_ind l.length (fun i=>∃ r,Ev (fun k=>slices_Index_string_string.l0 k l s (l.length:Int) (i:Int)) r/\decide (r>=0)=((l.drop i).any fun y=>decide (y.toList=s.toList))) ?_ ?_ 0 (by omega)
 ·rw [List.drop_length]
  exact ⟨-1,ev_step (fun _=>slices_Index_string_string.l0.eq_2 ..) (ev_neg (by omega) (ev_now _)),rfl⟩
 ·intro i h ⟨r,ih,hr⟩
  rw [List.drop_eq_getElem_cons h,List.any_cons]
  by_cases h1:s.toList=l[i].toList
  ·refine ⟨i,ev_step (fun _=>slices_Index_string_string.l0.eq_2 ..) (ev_pos (by omega) (ev_pos (by omega) (ev_pos (by omega) ?_))),?_⟩
   ·rw [rdOf_at h]
    exact ev_pos h1 (ev_now _)
   ·rw [decide_eq_true h1.symm,decide_eq_true (by omega),Bool.true_or]
  ·refine ⟨r,ev_step (fun _=>slices_Index_string_string.l0.eq_2 ..) (ev_pos (by omega) (ev_pos (by omega) (ev_pos (by omega) ?_))),?_⟩
   ·rw [rdOf_at h,w64n h (by omega)]
    exact ev_neg h1 ih
   ·rw [decide_eq_false (show ¬ l[i].toList=s.toList from fun e=>h1 e.symm),Bool.false_or]
    exact hr
theorem contains_impl (l:List ByteArray)(hl:l.length<=1048576)(s:ByteArray):Ev (fun k=>slices_Contains_string_string.f k l s) (hasL l s):=by
 obtain ⟨r,h1,h2⟩:=index_impl l hl s
 unfold slices_Contains_string_string.f
 rw [← h2]
 exact ev_bind h1 (ev_now _)
theorem filt_at (P:S70->Option Bool)(p:S70->Bool)(l:List S70)(hl:l.length<=1048576)(h:∀ x∈l,P x=some (p x)):∀ (d k i:Nat) (acc:List S70),i+d=l.length->d<k->acc.length<=i->impl_Label_76.l0 P l k acc (i:Int)=some (acc++(l.drop i).filter p):=by
 have hrd:∀ (i:Nat) (h:i<l.length),rd_T70 l (i:Int)=l[i]:=fun i h=>getD_lt h
 intro d
 induction d with
 | zero =>
  intro k i acc h1 h2 h3
  obtain ⟨k,rfl⟩:∃ m,k=m+1:=⟨k-1,by omega⟩
  simp only [impl_Label_76.l0]
  rw [if_neg (by omega),List.drop_eq_nil_of_le (by omega),List.filter_nil,List.append_nil]
 | succ d ih =>
  intro k i acc h1 h2 h3
  obtain ⟨k,rfl⟩:∃ m,k=m+1:=⟨k-1,by omega⟩
  have hi:i<l.length:=by omega
  have hp:P (⟨l[i].f0,l[i].f1⟩:S70)=some (p l[i]):=h l[i] (List.getElem_mem hi)
  simp only [impl_Label_76.l0]
  rw [if_pos (by omega),if_pos (by omega),hrd i hi,hp,Option.bind_some,List.drop_eq_getElem_cons hi,w64n hi (by omega)]
  by_cases hq:p l[i]=true
  ·rw [if_pos hq,if_pos (by omega),List.filter_cons_of_pos hq,ih k (i+1) _ (by omega) (by omega) (by rw [List.length_append,List.length_singleton];omega),List.append_assoc]
   rfl
  ·rw [if_neg hq,List.filter_cons_of_neg hq]
   exact ih k (i+1) acc (by omega) (by omega) (by omega)
theorem ev_all {α:Type}(P:Nat->α->Option Bool)(p:α->Bool):∀ l:List α,(∀ x∈l,Ev (fun k=>P k x) (p x))->∃ K,∀ k,K<=k->∀ x∈l,P k x=some (p x):=by
 intro l
 induction l with
 | nil=>intro _;exact ⟨0,fun _ _ _ h=>by cases h⟩
 | cons y l ih =>
  intro h
  obtain ⟨K,h1⟩:=ih (fun x hx=>h x (List.mem_cons_of_mem _ hx))
  obtain ⟨K',h2⟩:=h y (List.mem_cons_self ..)
  refine ⟨max K K',fun k hk x hx => ?_⟩
  rcases List.mem_cons.1 hx with rfl|hx
  ·exact h2 k (by omega)
  ·exact h1 k (by omega) x hx
theorem filt (P:Nat->S70->Option Bool)(p:S70->Bool)(l:List S70)(hl:l.length<=1048576)(h:∀ x∈l,Ev (fun k=>P k x) (p x)):Ev (fun k=>impl_Label_76.f k (P k) l) (l.filter p):=by
 obtain ⟨K,hK⟩:=ev_all P p l h
 refine ⟨max K (l.length+1),fun k hk => ?_⟩
 exact filt_at (P k) p l hl (hK k (by omega)) l.length k 0 [] (by omega) (by omega) (by simp)
end Go.Proofs.YtfdbbpnmnogddaaGreatDoor.U
namespace Go.Proofs.YtfdbbpnmnogddaaGreatDoor.U
open Go.RowKit Go.Proofs.YtfdbbpnmnogddaaGreatDoor.Pr Go.Proofs.YtfdbbpnmnogddaaGreatDoorW.PrintWords Go.Proofs.YtfdbbpnmnogddaaGreatDoorW.PrintLast Go.Proofs.YtfdbbpnmnogddaaGreatDoorW.PrintMore
set_option linter.unusedVariables false
set_option linter.unusedSimpArgs false
def ofL (n:ByteArray):List S70->ByteArray
 | []=>⟨#[]⟩
 | x::xs=>if Y x.f0=Y n then x.f1 else ofL n xs
end Go.Proofs.YtfdbbpnmnogddaaGreatDoor.U
namespace Go.Proofs.YtfdbbpnmnogddaaGreatDoor.U
open Go.RowKit Go.Proofs.YtfdbbpnmnogddaaGreatDoor.Pr Go.Proofs.YtfdbbpnmnogddaaGreatDoorW.PrintWords Go.Proofs.YtfdbbpnmnogddaaGreatDoorW.PrintLast Go.Proofs.YtfdbbpnmnogddaaGreatDoorW.PrintMore
set_option linter.unusedVariables false
set_option linter.unusedSimpArgs false
theorem of_impl (l:List S70)(hl:l.length<=9223372036854775807)(n:ByteArray):Ev (fun k=>impl_valueOf.f k l n) (ofL n l):=by
 have hrd:∀ (i:Nat) (h:i<l.length),rd_T70 l (i:Int)=l[i]:=fun i h=>getD_lt h
 refine up_ind l.length (fun i=>Ev (fun k=>impl_valueOf.l0 k n l (l.length:Int) (i:Int)) (ofL n (l.drop i))) ?_ ?_ 0 (by omega)
 ·rw [List.drop_length]
  exact ev_step (fun _=>impl_valueOf.l0.eq_2 ..) (ev_neg (by omega) (ev_now _))
 ·intro i h ih
  refine ev_step (fun _=>impl_valueOf.l0.eq_2 ..) (ev_pos (by omega) (ev_pos (by omega) (ev_pos (by omega) ?_)))
  rw [hrd i h,List.drop_eq_getElem_cons h,w64n h hl,Y_eq,Y_eq]
  simp only [ofL]
  refine ev_ite (fun h1 => ?_) (fun h1 => ?_)
  ·rw [if_pos h1]
   exact ev_now _
  ·rw [if_neg h1]
   exact ih
end Go.Proofs.YtfdbbpnmnogddaaGreatDoor.U
namespace Go.Proofs.YtfdbbpnmnogddaaGreatDoor.U
open Go.RowKit Go.Proofs.YtfdbbpnmnogddaaGreatDoor.Pr Go.Proofs.YtfdbbpnmnogddaaGreatDoorW.PrintWords Go.Proofs.YtfdbbpnmnogddaaGreatDoorW.PrintLast Go.Proofs.YtfdbbpnmnogddaaGreatDoorW.PrintMore
set_option linter.unusedVariables false
set_option linter.unusedSimpArgs false
theorem of_spec (l:List S70)(hl:l.length<=9223372036854775807)(n:ByteArray):Ev (fun k=>spec_l2Of.f k l n) (ofL n l):=by
 have hrd:∀ (i:Nat) (h:i<l.length),rd_T70 l (i:Int)=l[i]:=fun i h=>getD_lt h
 refine up_ind l.length (fun i=>Ev (fun k=>spec_l2Of.l0 k n l (l.length:Int) (i:Int)) (ofL n (l.drop i))) ?_ ?_ 0 (by omega)
 ·rw [List.drop_length]
  exact ev_step (fun _=>spec_l2Of.l0.eq_2 ..) (ev_neg (by omega) (ev_now _))
 ·intro i h ih
  refine ev_step (fun _=>spec_l2Of.l0.eq_2 ..) (ev_pos (by omega) (ev_pos (by omega) (ev_pos (by omega) ?_)))
  rw [hrd i h,List.drop_eq_getElem_cons h,w64n h hl,Y_eq,Y_eq]
  simp only [ofL]
  refine ev_ite (fun h1 => ?_) (fun h1 => ?_)
  ·rw [if_pos h1]
   exact ev_now _
  ·rw [if_neg h1]
   exact ih
end Go.Proofs.YtfdbbpnmnogddaaGreatDoor.U
namespace Go.Proofs.YtfdbbpnmnogddaaGreatDoor.U
open Go.RowKit Go.Proofs.YtfdbbpnmnogddaaGreatDoor.Pr Go.Proofs.YtfdbbpnmnogddaaGreatDoorW.PrintWords Go.Proofs.YtfdbbpnmnogddaaGreatDoorW.PrintLast Go.Proofs.YtfdbbpnmnogddaaGreatDoorW.PrintMore
set_option linter.unusedVariables false
set_option linter.unusedSimpArgs false
theorem riseL_all:∀ (l:List S70) (p:Option (List UInt8)),riseL p l=true->∀ x∈l,nameL (Y x.f0)=true/\valL (Y x.f1)=true:=by
 intro l
 induction l with
 | nil=>intro p _ x hx;cases hx
 | cons y ys ih =>
  intro p h x hx
  simp only [riseL,Bool.and_eq_true] at h
  rcases List.mem_cons.1 hx with rfl|hx
  ·exact ⟨h.1.1.1,h.1.1.2⟩
  ·exact ih _ h.2 x hx
theorem goodL_all {l:List S70}(h:goodL l=true):l.length<=20/\∀ x∈l,x.f0.size<=40/\x.f1.size<=100:=by
 unfold goodL at h
 rw [Bool.and_eq_true,decide_eq_true_eq] at h
 refine ⟨h.1,fun x hx => ?_⟩
 obtain ⟨h1,h2⟩:=riseL_all l none h.2 x hx
 simp only [nameL,valL,prL,Bool.and_eq_true,decide_eq_true_eq,Y_len] at h1 h2
 exact ⟨h1.1.1.2,h2.2.1⟩
end Go.Proofs.YtfdbbpnmnogddaaGreatDoor.U
namespace Go.Proofs.YtfdbbpnmnogddaaGreatDoor.U
open Go.RowKit Go.Proofs.YtfdbbpnmnogddaaGreatDoor.Pr Go.Proofs.YtfdbbpnmnogddaaGreatDoorW.PrintWords Go.Proofs.YtfdbbpnmnogddaaGreatDoorW.PrintLast Go.Proofs.YtfdbbpnmnogddaaGreatDoorW.PrintMore
set_option linter.unusedVariables false
set_option linter.unusedSimpArgs false
abbrev LE:ByteArray:=⟨#[108,101]⟩
def eqLL:List S70->List S70->Bool
 | [],[]=>true
 | [],_::_=>false
 | _::_,[]=>false
 | x::xs,y::ys=>(decide (Y x.f0=Y y.f0)&&decide (Y x.f1=Y y.f1))&&eqLL xs ys
theorem eqLL_iff:∀ l m:List S70,eqLL l m=true↔l=m
 | [],[]=>by simp [eqLL]
 | [],_::_=>by simp [eqLL]
 | _::_,[]=>by simp [eqLL]
 | x::xs,y::ys=>by
  simp only [eqLL,Bool.and_eq_true,decide_eq_true_eq,List.cons.injEq]
  rw [eqLL_iff xs ys]
  constructor
  ·rintro ⟨⟨a,b⟩,c⟩
   refine ⟨?_,c⟩
   cases x;cases y
   congr
   ·exact Y_inj a
   ·exact Y_inj b
  ·rintro ⟨rfl,c⟩
   exact ⟨⟨rfl,rfl⟩,c⟩
theorem cmpLL_iff:∀ l m:List S70,cmpLL l m=0↔eqLL l m=true
 | [],[]=>by simp [cmpLL,eqLL]
 | [],_::_=>by simp [cmpLL,eqLL]
 | _::_,[]=>by simp [cmpLL,eqLL]
 | x::xs,y::ys=>by
  simp only [cmpLL,eqLL]
  by_cases h:cmpL (Y x.f0) (Y y.f0)=0
  ·rw [if_pos h,decide_eq_true (cmpL_eq _ _ h),Bool.true_and]
   by_cases g:cmpL (Y x.f1) (Y y.f1)=0
   ·rw [if_pos g,decide_eq_true (cmpL_eq _ _ g),Bool.true_and]
    exact cmpLL_iff xs ys
   ·rw [if_neg g,decide_eq_false (fun e=>g (by rw [e];exact cmpL_self _)),Bool.false_and]
    exact ⟨fun e=>absurd e g,fun e=>by cases e⟩
  ·rw [if_neg h,decide_eq_false (fun e=>h (by rw [e];exact cmpL_self _)),Bool.false_and,Bool.false_and]
   exact ⟨fun e=>absurd e h,fun e=>by cases e⟩
theorem cmpLL_zero (l m:List S70):decide (cmpLL l m=0)=eqLL l m:=Bool.eq_iff_iff.2 (by rw [decide_eq_true_eq];exact cmpLL_iff l m)
def noLe (l:List S70):List S70:=l.filter fun x => !decide (Y x.f0=Y LE)
theorem noLe_len (l:List S70):(noLe l).length<=l.length:=List.length_filter_le ..
theorem noLe_fit {l:List S70}(h:fitL l):fitL (noLe l):=⟨by have:=noLe_len l;have:=h.1;omega,fun x hx=>h.2 x (List.mem_filter.1 hx).1⟩
theorem without_impl (l:List S70)(hl:l.length<=1048576):Ev (fun k=>impl_without.f k l LE) (noLe l):=by
 unfold impl_without.f impl_drop.f
 refine ev_bind ?_ (ev_now _)
 exact filt _ (fun x => !decide (Y x.f0=Y LE)) l hl (fun x _=>by
  rw [show (decide (Y x.f0=Y LE))=hasL [LE] x.f0 from by
   unfold hasL
   rw [List.any_cons,List.any_nil,Bool.or_false,Y_eq,Y_eq]
   by_cases e:Y x.f0=Y LE
   ·rw [decide_eq_true e,decide_eq_true e.symm]
   ·rw [decide_eq_false e,decide_eq_false (fun q=>e q.symm)]]
  exact ev_bind (contains_impl [LE] (by simp) x.f0) (ev_now _))
theorem withL_none (n v:ByteArray):∀ (l acc:List S70),withL n v acc true l=acc++l.filter fun x => !decide (Y x.f0=Y n)
 | [],acc=>by simp [withL]
 | x::xs,acc=>by
  simp only [withL,Bool.not_true,Bool.false_and,Bool.false_eq_true,if_false]
  rw [Y_eq,Y_eq]
  by_cases e:Y x.f0=Y n
  ·rw [if_pos e,withL_none n v xs acc,List.filter_cons_of_neg (by simp [e])]
  ·rw [if_neg e,withL_none n v xs,List.filter_cons_of_pos (by simp [e]),List.append_assoc]
   rfl
theorem with_le (l:List S70)(hf:fitL l)(hl:l.length<=1048576):Ev (fun k=>spec_l2With.f k l LE (⟨#[]⟩:ByteArray)) (noLe l):=by
 have e:=with_spec l hf hl LE (⟨#[]⟩:ByteArray) (by decide) true
 rw [withL_none,List.nil_append] at e
 unfold spec_l2With.f
 rw [show (((⟨#[]⟩:ByteArray).toList)==([]:List UInt8))=true from by rw [Y_eq];rfl]
 exact e
theorem same_impl (l m:List S70)(hl:l.length<=1048576):Ev (fun k=>impl_sameLabels.f k l m) (eqLL l m):=by
 have hrd:∀ (l:List S70) (i:Nat) (h:i<l.length),rd_T70 l (i:Int)=l[i]:=fun l i h=>getD_lt h
 have ne:∀ (l m:List S70),l.length≠m.length->eqLL l m=false:=fun l m h=>by
  cases e:eqLL l m with
  | false=>rfl
  | true=>exact absurd (congrArg List.length ((eqLL_iff l m).1 e)) h
 unfold impl_sameLabels.f
 refine ev_bind ?_ (ev_now _)
 refine ev_ite (fun h => ?_) (fun h=>by rw [ne l m (by omega)];exact ev_now _)
 have h2:l.length=m.length:=by omega
 refine up_ind l.length (fun i=>Ev (fun k=>impl_Label_67.l0 k l m (l.length:Int) (i:Int)) (eqLL (l.drop i) (m.drop i))) ?_ ?_ 0 (by omega)
 ·rw [List.drop_length,h2,List.drop_length]
  exact ev_step (fun _=>impl_Label_67.l0.eq_2 ..) (ev_neg (by omega) (ev_now _))
 ·intro i hi ih
  have hj:i<m.length:=by omega
  refine ev_step (fun _=>impl_Label_67.l0.eq_2 ..) (ev_pos (by omega) (ev_pos (by omega) (ev_pos (by omega) (ev_pos (by omega) ?_))))
  rw [hrd l i hi,hrd m i hj,List.drop_eq_getElem_cons hi,List.drop_eq_getElem_cons hj,w64n hi (by omega),Y_eq,Y_eq,Y_eq,Y_eq]
  simp only [eqLL]
  by_cases e0:Y l[i].f0=Y m[i].f0
  ·by_cases e1:Y l[i].f1=Y m[i].f1
   ·refine ev_neg (by rw [e0,e1,beq_self_eq_true,beq_self_eq_true];decide) ?_
    rw [decide_eq_true e0,decide_eq_true e1,Bool.true_and,Bool.true_and]
    exact ih
   ·refine ev_pos (by rw [e0,beq_self_eq_true,beq_eq_false_iff_ne.2 e1];rfl) ?_
    rw [decide_eq_false e1,Bool.and_false,Bool.false_and]
    exact ev_now _
  ·refine ev_pos (by rw [beq_eq_false_iff_ne.2 e0];rfl) ?_
   rw [decide_eq_false e0,Bool.false_and,Bool.false_and]
   exact ev_now _
theorem alike_spec (a b:S46)(ha:fitL a.f1)(hb:fitL b.f1)(la:a.f1.length<=1048576)(lb:b.f1.length<=1048576):Ev (fun k=>spec_l3Alike.f k a.f0 a.f1 a.f2 a.f3 a.f4 a.f5.f0 a.f5.f1 a.f5.f2 b.f0 b.f1 b.f2 b.f3 b.f4 b.f5.f0 b.f5.f1 b.f5.f2) (eqLL (noLe a.f1) (noLe b.f1)&&((a.f3==b.f3)&&(a.f4==b.f4))):=by
 unfold spec_l3Alike.f
 refine ev_bind (with_le a.f1 ha la) (ev_bind (with_le b.f1 hb lb) (ev_bind (cmpLL_spec _ _ (noLe_fit ha) (noLe_fit hb)) ?_))
 rw [← cmpLL_zero]
 refine ev_ite (fun h => ?_) (fun h => ?_)
 ·rw [decide_eq_true h,Bool.true_and]
  refine ev_ite (fun g => ?_) (fun g => ?_)
  ·rw [g,Bool.true_and];exact ev_now _
  ·rw [Bool.eq_false_iff.2 g,Bool.false_and];exact ev_now _
 ·rw [decide_eq_false h,Bool.false_and];exact ev_now _
theorem good_val_ne {l:List S70}(h:goodL l=true):∀ x∈l,Y x.f1≠[]:=by
 unfold goodL at h
 rw [Bool.and_eq_true] at h
 intro x hx e
 have:=(riseL_all l none h.2 x hx).2
 rw [e] at this
 exact absurd this (by decide)
theorem of_none {l:List S70}(hv:∀ x∈l,Y x.f1≠[])(n:ByteArray):Y (ofL n l)=[]↔l.filter (fun x => !decide (Y x.f0=Y n))=l:=by
 induction l with
 | nil=>simp [ofL]
 | cons x xs ih =>
  have ih:=ih (fun y hy=>hv y (List.mem_cons_of_mem _ hy))
  simp only [ofL]
  by_cases e:Y x.f0=Y n
  ·rw [if_pos e,List.filter_cons_of_neg (by simp [e])]
   constructor
   ·intro h
    exact absurd h (hv x (List.mem_cons_self ..))
   ·intro h
    have:=congrArg List.length h
    have:=List.length_filter_le (fun x:S70 => !decide (Y x.f0=Y n)) xs
    rw [List.length_cons] at *
    omega
  ·rw [if_neg e,List.filter_cons_of_pos (by simp [e]),ih]
   constructor
   ·intro h;rw [h]
   ·intro h;exact List.cons.inj h |>.2
theorem noLe_id {l:List S70}(h:goodL l=true):Y (ofL LE l)=[]↔noLe l=l:=of_none (good_val_ne h) LE
theorem noLe_noLe (l:List S70):noLe (noLe l)=noLe l:=by unfold noLe;rw [List.filter_filter];congr 1;funext x;rw [Bool.and_self]
end Go.Proofs.YtfdbbpnmnogddaaGreatDoor.U
namespace Go.Proofs.YtfdbbpnmnogddaaGreatDoor.U
open Go.RowKit Go.Proofs.YtfdbbpnmnogddaaGreatDoor.Pr Go.Proofs.YtfdbbpnmnogddaaGreatDoorW.PrintWords Go.Proofs.YtfdbbpnmnogddaaGreatDoorW.PrintLast Go.Proofs.YtfdbbpnmnogddaaGreatDoorW.PrintMore
set_option linter.unusedVariables false
set_option linter.unusedSimpArgs false
theorem dgB {d:Nat}(h:d<10):(UInt8.ofNat (48+d)).toNat=48+d:=by first|(rw [UInt8.toNat_ofNat'];omega)|(simp;omega)
theorem dec_snoc (u:Nat):(if u=0 then [] else Lib.decDigits u)=(if u=0 then [] else (if u / 10=0 then [] else Lib.decDigits (u / 10))++[UInt8.ofNat (48+u % 10)]):=by
 by_cases h:u=0
 ·rw [if_pos h,if_pos h]
 ·rw [if_neg h,if_neg h,Lib.decDigits]
  split
  ·rw [if_pos (by omega),show u % 10=u from by omega];rfl
  ·rw [if_neg (by omega)]
theorem num_any (s:Bool):∀ (d u:Nat) (acc:List UInt8),u<10 ^ d->u<=9223372036854775808->(s=false->u<=9223372036854775807)->acc.length+d<=1000 →
  Ev (fun k=>spec_l2Num.l0 k (if s=true then -(u:Int) else (u:Int)) (bs acc) s) (bs ((if s=true then [45] else [])++((if u=0 then [] else Lib.decDigits u)++acc))):=by
 intro d
 induction d with
 | zero =>
  intro u acc hu _ _ ha
  obtain rfl:u=0:=by simpa using hu
  refine ev_step (fun _=>spec_l2Num.l0.eq_2 ..) (ev_pos (by cases s <;> rfl) ?_)
  cases s with
  | true=>exact ev_pos rfl (ev_pos (by rw [bs_size];omega) (by rw [show (⟨#[45]⟩:ByteArray)=bs [45] from rfl,bs_app];exact ev_now _))
  | false=>exact ev_neg (by decide) (ev_now _)
 | succ d ih =>
  intro u acc hu h1 h2 ha
  by_cases h0:u=0
  ·subst h0
   refine ev_step (fun _=>spec_l2Num.l0.eq_2 ..) (ev_pos (by cases s <;> rfl) ?_)
   cases s with
   | true=>exact ev_pos rfl (ev_pos (by rw [bs_size];omega) (by rw [show (⟨#[45]⟩:ByteArray)=bs [45] from rfl,bs_app];exact ev_now _))
   | false=>exact ev_neg (by decide) (ev_now _)
  ·have hl:u % 10<10:=Nat.mod_lt _ (by decide)
   have hq:u / 10<10 ^ d:=by rw [Nat.pow_succ] at hu;omega
   have e1:strOfNums [(48+((u % 10:Nat):Int)) % 256]=bs [UInt8.ofNat (48+u % 10)]:=by
    rw [show ([(48+((u % 10:Nat):Int)) % 256]:List Int)=ints [UInt8.ofNat (48+u % 10)] from by unfold ints;rw [List.map_cons,List.map_nil,dgB hl];congr 1;omega,strOf_ints]
   have fin:=ih (u / 10) ([UInt8.ofNat (48+u % 10)]++acc) hq (by omega) (fun h=>by have:=h2 h;omega) (by rw [List.length_append,List.length_singleton];omega)
   rw [dec_snoc u,if_neg h0,List.append_assoc]
   cases s with
   | true =>
    simp only [if_true] at fin ⊢
    have hm:Int.tmod (-(u:Int)) 10 = -((u % 10:Nat):Int):=by rw [Int.neg_tmod,Int.tmod_eq_emod_of_nonneg (by omega)];omega
    have hd:Int.tdiv (-(u:Int)) 10 = -((u / 10:Nat):Int):=by rw [Int.neg_tdiv,Int.tdiv_eq_ediv_of_nonneg (by omega)];omega
    refine ev_step (fun _=>spec_l2Num.l0.eq_2 ..) (ev_neg (by omega) ?_)
    rw [hm,hd,w64 (x:=-((u / 10:Nat):Int)) (by omega) (by omega)]
    refine ev_ite (fun hz => ?_) (fun hz => ?_)
    ·refine ev_some ?_
     rw [Int.neg_neg,w64 (x:=((u % 10:Nat):Int)) (by omega) (by omega),w64 (by omega) (by omega),e1]
     exact ev_pos (by rw [bs_size,bs_size,List.length_singleton];omega) (by rw [bs_app];exact fin)
    ·refine ev_some ?_
     rw [show u % 10=0 from by omega] at e1 fin ⊢
     rw [show wrap64 (48 + -((0:Nat):Int))=48+((0:Nat):Int) from by rw [w64 (by omega) (by omega)];omega,e1]
     exact ev_pos (by rw [bs_size,bs_size,List.length_singleton];omega) (by rw [bs_app];exact fin)
   | false =>
    simp only [Bool.false_eq_true,if_false] at fin ⊢
    have hm:Int.tmod (u:Int) 10=((u % 10:Nat):Int):=by rw [Int.tmod_eq_emod_of_nonneg (by omega)];omega
    have hd:Int.tdiv (u:Int) 10=((u / 10:Nat):Int):=by rw [Int.tdiv_eq_ediv_of_nonneg (by omega)];omega
    have:=h2 rfl
    refine ev_step (fun _=>spec_l2Num.l0.eq_2 ..) (ev_neg (by omega) ?_)
    rw [hm,hd,w64 (x:=((u / 10:Nat):Int)) (by omega) (by omega)]
    refine ev_neg (by omega) (ev_some ?_)
    rw [w64 (by omega) (by omega),e1]
    exact ev_pos (by rw [bs_size,bs_size,List.length_singleton];omega) (by rw [bs_app];exact fin)
theorem num_all (n:Int)(h0 : -9223372036854775808<=n)(h1:n<=9223372036854775807):Ev (fun k=>spec_l2Num.f k n) (bs (Lib.itoa n)):=by
 unfold spec_l2Num.f
 refine ev_ite (fun h => ?_) (fun h => ?_)
 ·subst h
  rw [show Lib.itoa 0=[48] from by unfold Lib.itoa;rw [if_neg (by omega)];exact Lib.decDigits_one (by decide)]
  exact ev_now _
 ·by_cases hn:n<0
  ·obtain ⟨u,rfl⟩:∃ u:Nat,n = -(u:Int):=⟨n.natAbs,by omega⟩
   have key:=num_any true 19 u [] (Nat.lt_of_le_of_lt (m:=9223372036854775808) (by omega) (by decide)) (by omega) (fun h=>by cases h) (by simp)
   simp only [if_true,if_neg (show ¬ u=0 by omega),List.append_nil] at key
   rw [Lib.itoa_neg u (by omega),decide_eq_true hn]
   exact key
  ·obtain ⟨u,rfl⟩:=Int.eq_ofNat_of_zero_le (by omega:0<=n)
   have key:=num_any false 19 u [] (Nat.lt_of_le_of_lt (m:=9223372036854775808) (by omega) (by decide)) (by omega) (fun _=>by omega) (by simp)
   simp only [Bool.false_eq_true,if_false,if_neg (show ¬ u=0 by omega),List.append_nil,List.nil_append] at key
   rw [Lib.itoa_nonneg u,decide_eq_false hn]
   exact key
def valD (a:Nat):List UInt8->Nat
 | []=>a
 | c::r=>valD (a*10+(c.toNat-48)) r
theorem valD_app (l m:List UInt8):∀ a,valD a (l++m)=valD (valD a l) m:=by
 induction l with
 | nil=>intro a;rfl
 | cons c r ih=>intro a;exact ih _
theorem dec_dig:∀ (u:Nat),(Lib.decDigits u).all digC=true/\valD 0 (Lib.decDigits u)=u/\Lib.decDigits u≠[]:=by
 intro u
 induction u using Nat.strongRecOn with
 | _ u ih =>
  have hd:∀ d,d<10->digC (UInt8.ofNat (48+d))=true:=fun d h=>by unfold digC;rw [dgB h];simp only [Bool.and_eq_true,decide_eq_true_eq];omega
  by_cases h:u<10
  ·rw [Lib.decDigits_one h]
   refine ⟨by rw [List.all_cons,List.all_nil,Bool.and_true];exact hd u h,?_,List.cons_ne_nil _ _⟩
   show 0*10+((UInt8.ofNat (48+u)).toNat-48)=u
   rw [dgB h]
   omega
  ·obtain ⟨a,b,_⟩:=ih (u / 10) (by omega)
   have e:Lib.decDigits u=Lib.decDigits (u / 10)++[UInt8.ofNat (48+u % 10)]:=by rw [Lib.decDigits,dif_neg h]
   rw [e]
   refine ⟨by rw [List.all_append,a,List.all_cons,List.all_nil,Bool.and_true,Bool.true_and];exact hd (u % 10) (by omega),?_,fun h=>List.cons_ne_nil _ _ (List.append_eq_nil_iff.1 h).2⟩
   rw [valD_app _ _ 0,b]
   show u / 10*10+((UInt8.ofNat (48+u % 10)).toNat-48)=u
   rw [dgB (show u % 10<10 by omega)]
   omega
theorem dec_len (d:Nat):∀ u,u<10 ^ (d+1)->(Lib.decDigits u).length<=d+1:=by
 induction d with
 | zero=>intro u h;rw [Lib.decDigits_one (by omega)];simp
 | succ d ih =>
  intro u h
  rw [Lib.decDigits]
  split
  ·simp
  ·have:=ih (u / 10) (by rw [Nat.pow_succ] at h;omega)
   rw [List.length_append,List.length_singleton]
   omega
theorem wr_ex (x:Int):∃ q:Int,wrap64 x=x+q*18446744073709551616:=⟨-((x+9223372036854775808) / 18446744073709551616),by unfold wrap64;omega⟩
theorem wr_add (x q:Int):wrap64 (x+q*18446744073709551616)=wrap64 x:=by unfold wrap64;omega
theorem wr_step (a d:Int):wrap64 (wrap64 (wrap64 a*10)+d)=wrap64 (a*10+d):=by
 obtain ⟨q,h⟩:=wr_ex a
 obtain ⟨p,g⟩:=wr_ex (wrap64 a*10)
 rw [g,h,show (a+q*18446744073709551616)*10+p*18446744073709551616+d=(a*10+d)+(q*10+p)*18446744073709551616 by omega]
 exact wr_add _ _
theorem wr_in (x:Int) : -9223372036854775808<=wrap64 x/\wrap64 x<=9223372036854775807:=by unfold wrap64;omega
theorem read_l (s:ByteArray)(hs:s.size<=1000)(hp:0<s.size):∀ (d i:Nat) (a:Nat),i+d=s.size->(i=0->a=0) →
  (((Y s).drop (if i=0/\(Y s).head? = some 45 then 1 else i)).all digC=true->Ev (fun k=>spec_l2ReadNum.l0 k s (wrap64 (a:Int)) (i:Int)) (let u:=wrap64 (valD a ((Y s).drop (if i=0/\(Y s).head? = some 45 then 1 else i)):Int);let v:=if (Y s).head? = some 45 then wrap64 (-u) else u;(v,(Lib.itoa v==Y s)))) ∧
  (∃ v b,Ev (fun k=>spec_l2ReadNum.l0 k s (wrap64 (a:Int)) (i:Int)) (v,b)/\(b=true->Y s=Lib.itoa v/\ -9223372036854775808<=v/\v<=9223372036854775807)):=by
 have wr:=wr_in
 have h0:bt s 0=(((Y s)[0]'(by rw [Y_len];exact hp)).toNat:Int):=bt_at hp
 have hh:(Y s).head? = some ((Y s)[0]'(by rw [Y_len];exact hp)):=List.head?_eq_getElem? .. |>.trans (List.getElem?_eq_getElem _)
 have eb:∀ v:Int,((bs (Lib.itoa v)).toList==s.toList)=(Lib.itoa v==Y s):=fun v=>by rw [Y_eq,Y_eq,Y_bs]
 have h45:(bt s 0=45)↔(Y s).head? = some 45:=by
  rw [h0,hh,Option.some.injEq]
  constructor
  ·intro h
   exact UInt8.toNat_inj.1 (by have:((45:UInt8).toNat)=45:=rfl;omega)
  ·intro h
   rw [h];rfl
 have last:∀ a:Nat,Ev (fun k=>spec_l2ReadNum.l0 k s (wrap64 (a:Int)) (s.size:Int)) ((if (Y s).head? = some 45 then wrap64 (-wrap64 (a:Int)) else wrap64 (a:Int)),(Lib.itoa (if (Y s).head? = some 45 then wrap64 (-wrap64 (a:Int)) else wrap64 (a:Int))==Y s)):=by
  intro a
  refine ev_step (fun _=>spec_l2ReadNum.l0.eq_2 ..) (ev_neg (by omega) (ev_pos (by omega) ?_))
  refine ev_ite (fun h => ?_) (fun h => ?_)
  ·rw [if_pos (h45.1 h),← eb]
   exact ev_bind (num_all _ (wr _).1 (wr _).2) (ev_now _)
  ·rw [if_neg (fun e=>h (h45.2 e)),← eb]
   exact ev_bind (num_all _ (wr _).1 (wr _).2) (ev_now _)
 have step:∀ (i a:Nat) (h:i<s.size),digC ((Y s)[i]'(by rw [Y_len];exact h))=true->∀ r,Ev (fun k=>spec_l2ReadNum.l0 k s (wrap64 ((a*10+(((Y s)[i]'(by rw [Y_len];exact h)).toNat-48):Nat):Int)) ((i+1:Nat):Int)) r->Ev (fun k=>spec_l2ReadNum.j2 k s (wrap64 (a:Int)) (i:Int) false) r:=by
  intro i a h hd r e
  refine ev_step (fun _=>spec_l2ReadNum.j2.eq_2 ..) (ev_neg (by decide) (ev_pos (by omega) (ev_pos (by omega) ?_)))
  rw [bt_at h]
  refine ev_bind (ev_eq (digit_spec _)) (ev_pos hd ?_)
  unfold digC at hd
  simp only [Bool.and_eq_true,decide_eq_true_eq] at hd
  rw [w64n h (by omega)]
  have:wrap64 (wrap64 (wrap64 (a:Int)*10)+((((Y s)[i]'(by rw [Y_len];exact h)).toNat:Int)-48) % 256)=wrap64 ((a*10+(((Y s)[i]'(by rw [Y_len];exact h)).toNat-48):Nat):Int):=by
   rw [wr_step]
   congr 1
   have:=hd.1
   have:=hd.2
   generalize ((Y s)[i]'(by rw [Y_len];exact h)).toNat=c at *
   omega
  rw [this]
  exact e
 have stop:∀ (i a:Nat) (h:i<s.size),¬ digC ((Y s)[i]'(by rw [Y_len];exact h))=true->Ev (fun k=>spec_l2ReadNum.j2 k s (wrap64 (a:Int)) (i:Int) false) (0,false):=by
  intro i a h hd
  refine ev_step (fun _=>spec_l2ReadNum.j2.eq_2 ..) (ev_neg (by decide) (ev_pos (by omega) (ev_pos (by omega) ?_)))
  rw [bt_at h]
  exact ev_bind (ev_eq (digit_spec _)) (ev_neg hd (ev_now _))
 intro d
 induction d with
 | zero =>
  intro i a hi ha
  obtain rfl:i=s.size:=by omega
  have e1:(Y s).drop (if s.size=0/\(Y s).head? = some 45 then 1 else s.size)=[]:=by rw [if_neg (by omega),Y_drop_end]
  constructor
  ·intro _
   rw [e1]
   exact last a
  ·refine ⟨_,_,last a,fun h => ?_⟩
   refine ⟨(eq_of_beq h).symm,?_⟩
   split <;> exact wr _
 | succ d ih =>
  intro i a hi ha
  have hlt:i<s.size:=by omega
  have hrest:=ih (i+1)
  have go:∀ r,Ev (fun k=>spec_l2ReadNum.j2 k s (wrap64 (a:Int)) (i:Int) (decide (i=0/\(Y s).head? = some 45))) r->Ev (fun k=>spec_l2ReadNum.l0 k s (wrap64 (a:Int)) (i:Int)) r:=by
   intro r e
   refine ev_step (fun _=>spec_l2ReadNum.l0.eq_2 ..) (ev_pos (by omega) ?_)
   by_cases hz:i=0
   ·refine ev_pos (by omega) (ev_pos (by omega) ?_)
    rw [show (bt s 0==45)=decide (i=0/\(Y s).head? = some 45) from by rw [Bool.eq_iff_iff];simp only [beq_iff_eq,decide_eq_true_eq];rw [h45];simp [hz]]
    exact e
   ·refine ev_neg (by omega) ?_
    rw [show decide (i=0/\(Y s).head? = some 45)=false from decide_eq_false (fun h=>hz h.1)] at e
    exact e
  by_cases hm:i=0/\(Y s).head? = some 45
  ·obtain ⟨rfl,hm⟩:=hm
   obtain rfl:=ha rfl
   have go2:∀ r,Ev (fun k=>spec_l2ReadNum.l0 k s (wrap64 ((0:Nat):Int)) ((0+1:Nat):Int)) r->Ev (fun k=>spec_l2ReadNum.l0 k s (wrap64 ((0:Nat):Int)) ((0:Nat):Int)) r:=fun r e=>go r (by
    rw [decide_eq_true ⟨rfl,hm⟩]
    exact ev_step (fun _=>spec_l2ReadNum.j2.eq_2 ..) (ev_pos rfl (by rw [w64n hlt (by omega)];exact e)))
   obtain ⟨A,v,b,eB,hB⟩:=hrest 0 (by omega) (fun h=>by omega)
   constructor
   ·intro hd
    rw [if_pos ⟨rfl,hm⟩] at hd ⊢
    rw [if_neg (by omega)] at A
    exact go2 _ (A hd)
   ·exact ⟨v,b,go2 _ eB,hB⟩
  ·rw [if_neg hm] at *
   rw [decide_eq_false hm] at go
   by_cases hd:digC ((Y s)[i]'(by rw [Y_len];exact hlt))=true
   ·obtain ⟨A,v,b,eB,hB⟩:=hrest (a*10+(((Y s)[i]'(by rw [Y_len];exact hlt)).toNat-48)) (by omega) (fun h=>by omega)
    rw [if_neg (by omega)] at A
    constructor
    ·intro hall
     rw [Y_drop hlt] at hall ⊢
     rw [List.all_cons,Bool.and_eq_true] at hall
     exact go _ (step i a hlt hd _ (A hall.2))
    ·exact ⟨v,b,go _ (step i a hlt hd _ eB),hB⟩
   ·constructor
    ·intro hall
     rw [Y_drop hlt,List.all_cons,Bool.and_eq_true] at hall
     exact absurd hall.1 hd
    ·exact ⟨0,false,go _ (stop i a hlt hd),fun h=>by cases h⟩
theorem valD_ge (r:List UInt8):∀ x:Nat,x<=valD x r:=by
 induction r with
 | nil=>intro x;exact Nat.le_refl _
 | cons q r ih=>intro x;have:=ih (x*10+(q.toNat-48));show x<=valD (x*10+(q.toNat-48)) r;omega
theorem parse_dec (l:List UInt8):∀ (a:Nat),l.all digC=true->valD a l<=9223372036854775808->Lib.parseUint10 a l = .ok (valD a l):=by
 induction l with
 | nil=>intro a _ _;rfl
 | cons c r ih =>
  intro a h hv
  rw [List.all_cons,Bool.and_eq_true] at h
  have hd:=h.1
  unfold digC at hd
  simp only [Bool.and_eq_true,decide_eq_true_eq] at hd
  have hv2:valD (a*10+(c.toNat-48)) r<=9223372036854775808:=hv
  have hge:=valD_ge r (a*10+(c.toNat-48))
  have key:=ih _ h.2 hv2
  generalize hy:valD (a*10+(c.toNat-48)) r=y at *
  show _=Lib.NumEnd.ok (valD (a*10+(c.toNat-48)) r)
  rw [hy,← key,Lib.parseUint10,if_pos (by omega),if_neg (by omega),if_neg (by omega)]
theorem atoi_itoa (n:Int)(h0 : -9223372036854775808<=n)(h1:n<=9223372036854775807):Lib.atoiAll (Lib.itoa n) = .ok n:=by
 by_cases hn:n<0
 ·obtain ⟨u,rfl⟩:∃ u:Nat,n = -(u:Int):=⟨n.natAbs,by omega⟩
  obtain ⟨a,b,c⟩:=dec_dig u
  rw [Lib.itoa_neg u (by omega)]
  unfold Lib.atoiAll
  simp only [show ((45:UInt8).toNat=43∨(45:UInt8).toNat=45)=True from by simp,if_true]
  unfold Lib.parseMag
  rw [if_neg c,parse_dec _ 0 a (by rw [b];omega),b]
  simp only [show ((45:UInt8).toNat=45)=True from by simp,not_true,false_and,if_false,true_and,if_true]
  rw [if_neg (by omega)]
 ·obtain ⟨u,rfl⟩:=Int.eq_ofNat_of_zero_le (by omega:0<=n)
  obtain ⟨a,b,c⟩:=dec_dig u
  rw [Lib.itoa_nonneg u]
  cases hl:Lib.decDigits u with
  | nil=>exact absurd hl c
  | cons x r =>
   have hx:digC x=true:=by rw [hl,List.all_cons,Bool.and_eq_true] at a;exact a.1
   unfold digC at hx
   simp only [Bool.and_eq_true,decide_eq_true_eq] at hx
   unfold Lib.atoiAll
   simp only
   rw [if_neg (by omega)]
   unfold Lib.parseMag
   rw [← hl,if_neg c,parse_dec _ 0 a (by rw [b];omega),b]
   simp only
   rw [if_neg (by omega),if_neg (by omega),if_neg (by omega)]
theorem num_two (s:ByteArray)(hs:s.size<=1000):∃ (o:Option Int) (x y:Int),impl_readInt.f s=some (o.getD x,o.isSome)/\Ev (fun k=>spec_l2ReadNum.f k s) (o.getD y,o.isSome):=by
 by_cases hn:∃ n:Int,Y s=Lib.itoa n/\ -9223372036854775808<=n/\n<=9223372036854775807
 ·obtain ⟨n,e,h0,h1⟩:=hn
  refine ⟨some n,0,0,?_,?_⟩
  ·unfold impl_readInt.f
   rw [if_pos (by omega)]
   rw [show s.data.toList=Y s from rfl,e,atoi_itoa n h0 h1]
   simp only
   rw [if_pos ⟨h0,h1⟩,Y_eq,e,beq_self_eq_true]
   rfl
  ·have hl:(Lib.itoa n).length<=20/\1<=(Lib.itoa n).length/\((Lib.itoa n).drop (if (Lib.itoa n).head? = some 45 then 1 else 0)).all digC=true/\valD 0 ((Lib.itoa n).drop (if (Lib.itoa n).head? = some 45 then 1 else 0))=n.natAbs/\((Lib.itoa n).head? = some 45↔n<0):=by
    by_cases hz:n<0
    ·obtain ⟨u,rfl⟩:∃ u:Nat,n = -(u:Int):=⟨n.natAbs,by omega⟩
     obtain ⟨a,b,c⟩:=dec_dig u
     rw [Lib.itoa_neg u (by omega)]
     have:=dec_len 18 u (Nat.lt_of_le_of_lt (m:=9223372036854775808) (by omega) (by decide))
     simp only [List.length_cons,List.head?_cons,if_true,List.drop_succ_cons,List.drop_zero]
     exact ⟨by omega,by omega,a,by rw [b];omega,by simpa using hz⟩
    ·obtain ⟨u,rfl⟩:=Int.eq_ofNat_of_zero_le (by omega:0<=n)
     obtain ⟨a,b,c⟩:=dec_dig u
     rw [Lib.itoa_nonneg u]
     have:=dec_len 18 u (Nat.lt_of_le_of_lt (m:=9223372036854775808) (by omega) (by decide))
     have hne:¬ (Lib.decDigits u).head? = some 45:=by
      cases hl:Lib.decDigits u with
      | nil=>exact absurd hl c
      | cons x r =>
       rw [hl,List.all_cons,Bool.and_eq_true] at a
       intro h
       rw [List.head?_cons,Option.some.injEq] at h
       rw [h] at a
       exact absurd a.1 (by decide)
     rw [if_neg hne,List.drop_zero]
     exact ⟨by omega,List.length_pos_iff.2 c,a,by rw [b];omega,⟨fun h=>absurd h hne,fun h=>by omega⟩⟩
   obtain ⟨l1,l2,l3,l4,l5⟩:=hl
   rw [← e] at l1 l2 l3 l4 l5
   rw [Y_len] at l1 l2
   have key:=(read_l s hs (by omega) s.size 0 0 (by omega) (fun _=>rfl)).1 (by simpa using l3)
   simp only [true_and,l4] at key
   have hv:(if (Y s).head? = some 45 then wrap64 (-wrap64 ((n.natAbs:Nat):Int)) else wrap64 ((n.natAbs:Nat):Int))=n:=by
    split
    ·rename_i h
     have:=l5.1 h
     unfold wrap64
     omega
    ·rename_i h
     have:¬ n<0:=fun h2=>h (l5.2 h2)
     unfold wrap64
     omega
   rw [hv,← e,beq_self_eq_true,show wrap64 ((0:Nat):Int)=0 from by unfold wrap64;omega] at key
   unfold spec_l2ReadNum.f
   refine ev_neg (by omega) ?_
   rw [decide_eq_false (by omega)]
   exact ev_step (fun _=>spec_l2ReadNum.j0.eq_2 ..) (ev_neg (by decide) key)
 ·have no:∀ v b,(b=true->Y s=Lib.itoa v/\ -9223372036854775808<=v/\v<=9223372036854775807)->b=false:=fun v b h=>by
   cases b with
   | false=>rfl
   | true=>exact absurd ⟨v,h rfl⟩ hn
  have hi:∃ x,impl_readInt.f s=some (x,false):=by
   unfold impl_readInt.f
   rw [if_pos (by omega)]
   cases hq:Lib.atoiAll s.data.toList with
   | ok v =>
    have hv : -9223372036854775808<=v/\v<=9223372036854775807:=by
     unfold Lib.atoiAll at hq
     split at hq
     ·cases hq
     ·simp only at hq
      split at hq
      ·cases hq
      ·cases hq
      ·split at hq
       ·cases hq
       ·split at hq
        ·cases hq
        ·rename_i h1 h2
         injection hq with hq
         subst hq
         split <;> omega
    refine ⟨v,?_⟩
    simp only
    rw [if_pos hv]
    congr 2
    exact beq_eq_false_iff_ne.2 (fun e=>hn ⟨v,by rw [← Y_eq];exact e.symm,hv⟩)
   | «syntax»=>exact ⟨0,rfl⟩
   | range=>exact ⟨_,rfl⟩
  have hsp:∃ y,Ev (fun k=>spec_l2ReadNum.f k s) (y,false):=by
   unfold spec_l2ReadNum.f
   by_cases hz:s.size<1
   ·exact ⟨0,ev_pos (by omega) (ev_step (fun _=>spec_l2ReadNum.j0.eq_2 ..) (ev_pos rfl (ev_now _)))⟩
   ·by_cases hb:(s.size:Int)>20
    ·refine ⟨0,ev_neg (by omega) ?_⟩
     rw [decide_eq_true hb]
     exact ev_step (fun _=>spec_l2ReadNum.j0.eq_2 ..) (ev_pos rfl (ev_now _))
    ·obtain ⟨v,b,e,hB⟩:=(read_l s hs (by omega) s.size 0 0 (by omega) (fun _=>rfl)).2
     rw [no v b hB,show wrap64 ((0:Nat):Int)=0 from by unfold wrap64;omega] at e
     refine ⟨v,ev_neg (by omega) ?_⟩
     rw [decide_eq_false hb]
     exact ev_step (fun _=>spec_l2ReadNum.j0.eq_2 ..) (ev_neg (by decide) e)
  obtain ⟨x,hx⟩:=hi
  obtain ⟨y,hy⟩:=hsp
  exact ⟨none,x,y,hx,hy⟩
end Go.Proofs.YtfdbbpnmnogddaaGreatDoor.U
namespace Go.Proofs.YtfdbbpnmnogddaaGreatDoor.U
open Go.RowKit Go.Proofs.YtfdbbpnmnogddaaGreatDoor.Pr Go.Proofs.YtfdbbpnmnogddaaGreatDoorW.PrintWords Go.Proofs.YtfdbbpnmnogddaaGreatDoorW.PrintLast Go.Proofs.YtfdbbpnmnogddaaGreatDoorW.PrintMore
set_option linter.unusedVariables false
set_option linter.unusedSimpArgs false
abbrev Pt:=S46
abbrev BU:List UInt8:=[95,98,117,99,107,101,116]
abbrev CO:List UInt8:=[95,99,111,117,110,116]
abbrev SU:List UInt8:=[95,115,117,109]
abbrev INF:List UInt8:=[105,110,102]
def lev (p:Pt):ByteArray:=ofL LE p.f1
def numO (s:ByteArray):Option Int:=match impl_readInt.f s with
 | some (v,true)=>some v
 | _=>none
theorem numO_both (s:ByteArray)(hs:s.size<=1000):∃ x y,impl_readInt.f s=some ((numO s).getD x,(numO s).isSome)/\Ev (fun k=>spec_l2ReadNum.f k s) ((numO s).getD y,(numO s).isSome):=by
 obtain ⟨o,x,y,h1,h2⟩:=num_two s hs
 have e:numO s=o:=by
  unfold numO
  rw [h1]
  cases o <;> rfl
 rw [e]
 exact ⟨x,y,h1,h2⟩
def okP (f:Pt)(q:Option Pt)(p:Pt):Bool:=decide (Y p.f0=BU)&&(decide (p.f3=f.f3)&&(decide (p.f4=f.f4)&&(eqLL (noLe p.f1) (noLe f.f1)&&(decide (0<=p.f2)&&(match q with
 | none=>true
 | some q=>decide (q.f2<=p.f2))))))
def scan (f:Pt):Option Pt->Int->List Pt->Option (Pt × List Pt)
 | _,_,[]=>none
 | q,last,p::t=>if okP f q p=true then (if Y (lev p)=INF then some (p,t) else match numO (lev p) with
  | none=>none
  | some v=>if q.isSome=true/\v<=last then none else scan f (some p) v t) else none
theorem scan_spec (f:Pt):∀ (l:List Pt) q last p t,scan f q last l=some (p,t)->(∃ pre,l=pre++p::t/\∀ x∈pre++[p],Y x.f0=BU)/\noLe p.f1=noLe f.f1/\p.f3=f.f3/\p.f4=f.f4:=by
 intro l
 induction l with
 | nil=>intro q last p t h;cases h
 | cons a r ih =>
  intro q last p t h
  simp only [scan] at h
  by_cases ho:okP f q a=true
  ·rw [if_pos ho] at h
   unfold okP at ho
   simp only [Bool.and_eq_true,decide_eq_true_eq] at ho
   by_cases hi:Y (lev a)=INF
   ·rw [if_pos hi] at h
    injection h with h
    obtain ⟨rfl,rfl⟩:=Prod.mk.inj h
    exact ⟨⟨[],rfl,fun x hx=>by rw [List.mem_singleton.1 hx];exact ho.1⟩,(eqLL_iff _ _).1 ho.2.2.2.1,ho.2.1,ho.2.2.1⟩
   ·rw [if_neg hi] at h
    cases hn:numO (lev a) with
    | none=>rw [hn] at h;cases h
    | some v =>
     rw [hn] at h
     simp only at h
     split at h
     ·cases h
     ·obtain ⟨⟨pre,e,hp⟩,h2⟩:=ih _ _ _ _ h
      refine ⟨⟨a::pre,by rw [e];rfl,fun x hx => ?_⟩,h2⟩
      rcases List.mem_cons.1 hx with rfl|hx
      ·exact ho.1
      ·exact hp x hx
  ·rw [if_neg ho] at h
   cases h
def ckI (f:Pt)(s:List UInt8)(a:Pt):Bool:=decide (Y a.f0=s)&&(eqLL a.f1 (noLe f.f1)&&(decide (a.f3=f.f3)&&(decide (a.f4=f.f4) && !a.f5.f0)))
def tailI (f p:Pt)(H:List Pt->Bool):List Pt->Bool
 | a::b::r=>ckI f CO a&&(ckI f SU b&&(decide (a.f2=p.f2)&&H r))
 | _=>false
def histI:Nat->List Pt->Bool
 | _,[]=>true
 | 0,_::_=>false
 | n+1,f::t=>match scan f none 0 (f::t) with
  | none=>false
  | some (p,t')=>tailI f p (histI n) t'
def alk (x y:Pt):Bool:=eqLL (noLe x.f1) (noLe y.f1)&&((x.f3==y.f3)&&(x.f4==y.f4))
def okS (p a b:Pt):Bool:=decide (Y a.f0=CO)&&(decide (Y b.f0=SU)&&(decide (a.f2=p.f2)&&(decide (Y (lev a)=[])&&(decide (Y (lev b)=[])&&(alk p a&&alk p b)))))
def rowS (l:List Pt):Int × Bool:=match l with
 | []=>(0,false)
 | f::_=>match scan f none 0 l with
  | none=>(0,false)
  | some (p,t)=>match t with
   | a::b::r=>((l.length:Int)-(r.length:Int),okS p a b)
   | _=>(0,false)
def histS:Nat->List Pt->Bool
 | _,[]=>true
 | 0,_::_=>false
 | n+1,f::t=>match scan f none 0 (f::t) with
  | none=>false
  | some (p,t')=>match t' with
   | a::b::r=>okS p a b&&histS n r
   | _=>false
def exOK (p:Pt):Bool:=!p.f5.f0||decide (Y p.f0=BU)
theorem hist_eq:∀ (n:Nat) (l:List Pt),(∀ p∈l,goodL p.f1=true)->histI n l=(l.all exOK&&histS n l)
 | 0,[],_=>rfl
 | n+1,[],_=>rfl
 | 0,f::t,_=>by simp [histI,histS]
 | n+1,f::t,hg=>by
  simp only [histI,histS]
  cases hs:scan f none 0 (f::t) with
  | none=>simp
  | some pt =>
   obtain ⟨p,t'⟩:=pt
   obtain ⟨⟨pre,e,hp⟩,h1,h2,h3⟩:=scan_spec f _ _ _ _ _ hs
   have hall:(f::t).all exOK=t'.all exOK:=by
    rw [e,show pre++p::t'=(pre++[p])++t' by simp,List.all_append]
    rw [show (pre++[p]).all exOK=true from List.all_eq_true.2 (fun x hx=>by unfold exOK;rw [decide_eq_true (hp x hx),Bool.or_true]),Bool.true_and]
   rw [hall]
   simp only
   match t',e with
   | [],_=>simp [tailI]
   | [a],_=>simp [tailI]
   | a::b::r,e =>
    have ma:a∈f::t:=by rw [e];simp
    have mb:b∈f::t:=by rw [e];simp
    have ih:=hist_eq n r (fun x hx=>hg x (by rw [e];simp [hx]))
    have key:∀ (s:List UInt8) (x:Pt),goodL x.f1=true->s≠BU->ckI f s x=(exOK x&&(decide (Y x.f0=s)&&(decide (Y (lev x)=[])&&alk p x))):=by
     intro s x gx hs
     unfold ckI exOK alk
     by_cases e0:Y x.f0=s
     ·rw [decide_eq_true e0,show decide (Y x.f0=BU)=false from decide_eq_false (fun q=>hs (by rw [← e0];exact q)),Bool.or_false,Bool.true_and,Bool.true_and]
      have e1:eqLL x.f1 (noLe f.f1)=(decide (Y (lev x)=[])&&eqLL (noLe p.f1) (noLe x.f1)):=by
       rw [Bool.eq_iff_iff,Bool.and_eq_true,decide_eq_true_eq,eqLL_iff,eqLL_iff,h1]
       unfold lev
       rw [noLe_id gx]
       constructor
       ·intro q
        rw [q]
        exact ⟨noLe_noLe _,by rw [noLe_noLe]⟩
       ·rintro ⟨q1,q2⟩
        rw [q2,q1]
      rw [e1,h2,h3]
      have b3:(f.f3==x.f3)=decide (x.f3=f.f3):=by cases f.f3 <;> cases x.f3 <;> rfl
      have b4:(f.f4==x.f4)=decide (x.f4=f.f4):=by rw [Bool.eq_iff_iff,beq_iff_eq,decide_eq_true_eq];exact eq_comm
      rw [b3,b4]
      cases x.f5.f0 <;> cases decide (Y (lev x)=[]) <;> cases eqLL (noLe p.f1) (noLe x.f1) <;> cases decide (x.f3=f.f3) <;> cases decide (x.f4=f.f4) <;> rfl
     ·rw [decide_eq_false e0,Bool.false_and,Bool.false_and,Bool.and_false]
    simp only [tailI,List.all_cons]
    rw [key CO a (hg a ma) (by decide),key SU b (hg b mb) (by decide),ih]
    unfold okS
    cases exOK a <;> cases exOK b <;> cases r.all exOK <;> cases histS n r <;> cases decide (Y a.f0=CO) <;> cases decide (Y b.f0=SU) <;> cases decide (a.f2=p.f2) <;> cases decide (Y (lev a)=[]) <;> cases decide (Y (lev b)=[]) <;> cases alk p a <;> cases alk p b <;> rfl
end Go.Proofs.YtfdbbpnmnogddaaGreatDoor.U
namespace Go.Proofs.YtfdbbpnmnogddaaGreatDoor.U
open Go.RowKit Go.Proofs.YtfdbbpnmnogddaaGreatDoor.Pr Go.Proofs.YtfdbbpnmnogddaaGreatDoorW.PrintWords Go.Proofs.YtfdbbpnmnogddaaGreatDoorW.PrintLast Go.Proofs.YtfdbbpnmnogddaaGreatDoorW.PrintMore
set_option linter.unusedVariables false
set_option linter.unusedSimpArgs false
structure PQ (p:Pt):Prop where
 fit:fitL p.f1
 len:p.f1.length<=1048576
 le:(lev p).size<=1000
theorem rdP (l:List Pt)(i:Nat)(h:i<l.length):rd_T46 l (i:Int)=l[i]:=getD_lt h
section
variable (n:Nat) (L:List Pt) (f:Pt) (hl:L.length<=1048576) (hP:∀ p∈L,PQ p)
theorem l2_step (i j:Nat)(s:ByteArray)(hj:j<2)(hcs:impl_goodHist.cs (j:Int)=some s)(hi:i+j<L.length)(r:Bool)(hl:L.length<=1048576)(hP:∀ p∈L,PQ p)
  (e:Ev (fun k=>impl_goodHist.l2 k L (noLe f.f1) (i:Int) ((j+1:Nat):Int) f.f0 f.f1 f.f2 f.f3 f.f4 f.f5.f0 f.f5.f1 f.f5.f2) r) :
  Ev (fun k=>impl_goodHist.l2 k L (noLe f.f1) (i:Int) (j:Int) f.f0 f.f1 f.f2 f.f3 f.f4 f.f5.f0 f.f5.f1 f.f5.f2) (ckI f (Y s) L[i+j]&&r):=by
 have pq:=hP _ (List.getElem_mem hi)
 refine ev_step (fun _=>impl_goodHist.l2.eq_2 ..) (ev_pos (by omega) (ev_bind (ev_eq hcs) ?_))
 rw [show wrap64 ((i:Int)+(j:Int))=((i+j:Nat):Int) from by rw [w64 (by omega) (by omega)];omega,w64n (n:=2) hj (by omega)]
 refine ev_pos (by omega) (ev_pos (by omega) ?_)
 rw [rdP L _ hi,Y_eq,Y_eq]
 unfold ckI
 refine ev_ite (fun h => ?_) (fun h=>by rw [decide_eq_false h,Bool.false_and,Bool.false_and];exact ev_now _)
 rw [decide_eq_true h,Bool.true_and]
 refine ev_bind (same_impl _ _ pq.len) ?_
 refine ev_ite (fun h => ?_) (fun h=>by rw [Bool.eq_false_iff.2 h,Bool.false_and,Bool.false_and];exact ev_now _)
 rw [h,Bool.true_and]
 refine ev_ite (fun h => ?_) (fun h => ?_)
 ·rw [decide_eq_false (fun q=>by rw [q] at h;simp at h),Bool.false_and,Bool.false_and];exact ev_now _
 ·rw [decide_eq_true (by simpa using h),Bool.true_and]
  refine ev_ite (fun h => ?_) (fun h=>by rw [decide_eq_false h,Bool.false_and,Bool.false_and];exact ev_now _)
  rw [decide_eq_true h,Bool.true_and]
  refine ev_ite (fun h=>by rw [h,Bool.not_true,Bool.false_and];exact ev_now _) (fun h => ?_)
  rw [Bool.eq_false_iff.2 h,Bool.not_false,Bool.true_and]
  exact e
theorem tail_impl (i:Nat)(hi:i<L.length)(hl:L.length<=1048576)(hP:∀ p∈L,PQ p)(H:List Pt->Bool)(hrec:∀ m,i<m->m<=L.length->Ev (fun k=>impl_goodHist.l0 k (L.drop m)) (H (L.drop m))) :
  Ev (fun k=>if (L.length:Int)<wrap64 (wrap64 ((i:Int)+1)+2) then some false else impl_goodHist.l2 k L (noLe f.f1) (wrap64 ((i:Int)+1)) 0 f.f0 f.f1 f.f2 f.f3 f.f4 f.f5.f0 f.f5.f1 f.f5.f2) (tailI f L[i] H (L.drop (i+1))):=by
 have e1:wrap64 ((i:Int)+1)=((i+1:Nat):Int):=w64n hi (by omega)
 have e2:wrap64 (((i+1:Nat):Int)+2)=((i+3:Nat):Int):=by rw [w64 (by omega) (by omega)];omega
 rw [e1,e2]
 refine ev_ite (fun h => ?_) (fun h => ?_)
 ·have:(L.drop (i+1)).length<=1:=by rw [List.length_drop];omega
  match hd:L.drop (i+1) with
  | []=>exact ev_now _
  | [a]=>exact ev_now _
  | a::b::r=>rw [hd] at this;simp at this
 ·have ha:i+1+0<L.length:=by omega
  have hb:i+1+1<L.length:=by omega
  rw [List.drop_eq_getElem_cons ha,List.drop_eq_getElem_cons hb]
  refine l2_step L f (i+1) 0 ⟨#[95,99,111,117,110,116]⟩ (by omega) rfl ha _ hl hP (l2_step L f (i+1) 1 ⟨#[95,115,117,109]⟩ (by omega) rfl hb _ hl hP ?_)
  refine ev_step (fun _=>impl_goodHist.l2.eq_2 ..) (ev_neg (by omega) (ev_pos (by omega) (ev_pos (by omega) ?_)))
  rw [show wrap64 (((i+1:Nat):Int)-1)=((i:Nat):Int) from by rw [w64 (by omega) (by omega)];omega]
  refine ev_pos (by omega) (ev_pos (by omega) ?_)
  rw [rdP L _ ha,rdP L _ hi]
  refine ev_ite (fun h => ?_) (fun h=>by rw [decide_eq_false h,Bool.false_and];exact ev_now _)
  rw [decide_eq_true h,Bool.true_and]
  rw [e2]
  refine ev_pos (by omega) (ev_pos (by omega) ?_)
  rw [Int.toNat_natCast]
  exact hrec (i+3) (by omega) (by omega)
theorem scan_impl (hl:L.length<=1048576)(hP:∀ p∈L,PQ p)(H:List Pt->Bool)(hrec:∀ m,0<m->m<=L.length->Ev (fun k=>impl_goodHist.l0 k (L.drop m)) (H (L.drop m))):∀ (d i:Nat) (last:Int) (q:Option Pt),i+d=L.length->(i=0->q=none)->(∀ h:i-1<L.length,0<i->q=some L[i-1]) →
  Ev (fun k=>impl_goodHist.l1 k L (noLe f.f1) (i:Int) last f.f0 f.f1 f.f2 f.f3 f.f4 f.f5.f0 f.f5.f1 f.f5.f2) (match scan f q last (L.drop i) with
   | none=>false
   | some (p,t)=>tailI f p H t):=by
 intro d
 induction d with
 | zero =>
  intro i last q hi _ _
  obtain rfl:i=L.length:=by omega
  rw [List.drop_length]
  exact ev_step (fun _=>impl_goodHist.l1.eq_2 ..) (ev_pos rfl (ev_step (fun _=>impl_goodHist.j2.eq_2 ..) (ev_pos rfl (ev_now _))))
 | succ d ih =>
  intro i last q hi h0 h1
  have hlt:i<L.length:=by omega
  have pq:=hP _ (List.getElem_mem hlt)
  have head:∀ r,Ev (fun k=>impl_goodHist.j2 k L (noLe f.f1) (i:Int) last (!okP f q L[i]) f.f0 f.f1 f.f2 f.f3 f.f4 f.f5.f0 f.f5.f1 f.f5.f2) r->Ev (fun k=>impl_goodHist.l1 k L (noLe f.f1) (i:Int) last f.f0 f.f1 f.f2 f.f3 f.f4 f.f5.f0 f.f5.f1 f.f5.f2) r:=by
   intro r e
   unfold okP at e
   refine ev_step (fun _=>impl_goodHist.l1.eq_2 ..) (ev_neg (by omega) (ev_pos (by omega) (ev_pos (by omega) ?_)))
   rw [rdP L i hlt,Y_eq]
   refine ev_ite (fun h => ?_) (fun h=>by rw [decide_eq_false h,Bool.false_and,Bool.not_false] at e;exact e)
   rw [decide_eq_true h,Bool.true_and] at e
   refine ev_ite (fun h=>by rw [decide_eq_false (fun q=>by rw [q] at h;simp at h),Bool.false_and,Bool.not_false] at e;exact e) (fun h => ?_)
   rw [decide_eq_true (by simpa using h),Bool.true_and] at e
   refine ev_ite (fun h => ?_) (fun h=>by rw [decide_eq_false h,Bool.false_and,Bool.not_false] at e;exact e)
   rw [decide_eq_true h,Bool.true_and] at e
   refine ev_bind (without_impl _ pq.len) (ev_bind (same_impl _ _ (Nat.le_trans (noLe_len _) pq.len)) ?_)
   refine ev_ite (fun h => ?_) (fun h=>by rw [Bool.eq_false_iff.2 h,Bool.false_and,Bool.not_false] at e;exact e)
   rw [h,Bool.true_and] at e
   refine ev_ite (fun h=>by rw [decide_eq_false (by omega),Bool.false_and,Bool.not_false] at e;exact e) (fun h => ?_)
   rw [decide_eq_true (by omega),Bool.true_and] at e
   refine ev_ite (fun h => ?_) (fun h => ?_)
   ·have hp:i-1<L.length:=by omega
    rw [h1 hp (by omega)] at e
    rw [show wrap64 ((i:Int)-1)=((i-1:Nat):Int) from by rw [w64 (by omega) (by omega)];omega]
    refine ev_pos (by omega) (ev_pos (by omega) ?_)
    rw [rdP L _ hp]
    simp only at e
    rw [show (!decide (L[i-1].f2<=L[i].f2))=decide (L[i].f2<L[i-1].f2) from by rw [← decide_not];congr 1;rw [eq_iff_iff];omega] at e
    exact e
   ·rw [h0 (by omega)] at e
    exact e
  refine head _ ?_
  rw [List.drop_eq_getElem_cons hlt]
  simp only [scan]
  refine ev_step (fun _=>impl_goodHist.j2.eq_2 ..) ?_
  cases ho:okP f q L[i] with
  | false=>exact ev_pos rfl (ev_now _)
  | true =>
   refine ev_neg (by decide) (ev_pos (by omega) (ev_pos (by omega) ?_))
   rw [rdP L i hlt,if_pos rfl]
   refine ev_bind (of_impl L[i].f1 (by have:=pq.len;omega) LE) ?_
   rw [Y_eq]
   refine ev_ite (fun h => ?_) (fun h => ?_)
   ·rw [if_pos (show Y (lev L[i])=INF from h)]
    exact tail_impl L f i hlt hl hP H (fun m h1 h2=>hrec m (by omega) h2)
   ·rw [if_neg (show ¬ Y (lev L[i])=INF from h)]
    obtain ⟨x,y,n1,_⟩:=numO_both (lev L[i]) pq.le
    refine ev_bind (ev_eq n1) ?_
    rw [w64n hlt (by omega)]
    cases hn:numO (lev L[i]) with
    | none=>exact ev_neg (by simp) (ev_now _)
    | some v =>
     have next:=ih (i+1) v (some L[i]) (by omega) (fun h=>by omega) (fun _ _=>rfl)
     refine ev_pos rfl (ev_ite (fun h => ?_) (fun h => ?_))
     ·have hq:=h1 (by omega) (by omega)
      rw [hq]
      refine ev_ite (fun h2 => ?_) (fun h2 => ?_)
      ·simp only
       rw [if_pos ⟨rfl,h2⟩]
       exact ev_now _
      ·simp only
       rw [if_neg (fun h3=>h2 h3.2)]
       exact next
     ·rw [h0 (by omega)]
      simp only
      rw [if_neg (fun h3=>by cases h3.1)]
      exact next
end
theorem hist_impl:∀ (n:Nat) (l:List Pt),l.length<=n->l.length<=1048576->(∀ p∈l,PQ p)->Ev (fun k=>impl_goodHist.l0 k l) (histI n l):=by
 intro n
 induction n with
 | zero =>
  intro l hn _ _
  obtain rfl:=List.eq_nil_of_length_eq_zero (by omega:l.length=0)
  exact ev_step (fun _=>impl_goodHist.l0.eq_2 ..) (ev_neg (by simp) (ev_now _))
 | succ n ih =>
  intro l hn hl hP
  match l,hn,hl,hP with
  | [],_,_,_=>exact ev_step (fun _=>impl_goodHist.l0.eq_2 ..) (ev_neg (by simp) (ev_now _))
  | f::t,hn,hl,hP =>
   have h0:rd_T46 (f::t) 0=f:=rdP (f::t) 0 (by simp)
   refine ev_step (fun _=>impl_goodHist.l0.eq_2 ..) (ev_pos (by simp) (ev_pos (by simp) ?_))
   rw [h0]
   refine ev_bind (without_impl _ (hP f (List.mem_cons_self ..)).len) ?_
   have key:=scan_impl (f::t) f hl hP (histI n) (fun m h1 h2=>ih _ (by rw [List.length_drop];omega) (by rw [List.length_drop];omega) (fun p hp=>hP p (List.mem_of_mem_drop hp))) (f::t).length 0 0 none (by omega) (fun _=>rfl) (fun _ h=>by omega)
   rw [List.drop_zero] at key
   exact key
theorem hist_f (l:List Pt)(hl:l.length<=1048576)(hP:∀ p∈l,PQ p):Ev (fun k=>impl_goodHist.f k l) (histI l.length l):=hist_impl l.length l (Nat.le_refl _) hl hP
end Go.Proofs.YtfdbbpnmnogddaaGreatDoor.U
namespace Go.Proofs.YtfdbbpnmnogddaaGreatDoor.U
open Go.RowKit Go.Proofs.YtfdbbpnmnogddaaGreatDoor.Pr Go.Proofs.YtfdbbpnmnogddaaGreatDoorW.PrintWords Go.Proofs.YtfdbbpnmnogddaaGreatDoorW.PrintLast Go.Proofs.YtfdbbpnmnogddaaGreatDoorW.PrintMore
set_option linter.unusedVariables false
set_option linter.unusedSimpArgs false
section
variable (L:List Pt) (f:Pt)
theorem row_l (hf:L[0]? = some f)(hl:L.length<=1048576)(hP:∀ p∈L,PQ p):∀ (d i:Nat) (last:Int) (q:Option Pt),i+d=L.length->(i=0->q=none)->(∀ h:i-1<L.length,0<i->q=some L[i-1]/\numO (lev L[i-1])=some last) →
  Ev (fun k=>spec_l3Row.l0 k L L (L.length:Int) (i:Int)) (match scan f q last (L.drop i) with
   | none=>(0,false)
   | some (p,t)=>match t with
    | a::b::r=>((L.length:Int)-(r.length:Int),okS p a b)
    | _=>(0,false)):=by
 intro d
 induction d with
 | zero =>
  intro i last q hi _ _
  obtain rfl:i=L.length:=by omega
  rw [List.drop_length]
  exact ev_step (fun _=>spec_l3Row.l0.eq_2 ..) (ev_neg (by omega) (ev_now _))
 | succ d ih =>
  intro i last q hi h0 h1
  have hlt:i<L.length:=by omega
  have pq:=hP _ (List.getElem_mem hlt)
  have h00:0<L.length:=by omega
  have hf0:rd_T46 L 0=f:=by
   rw [List.getElem?_eq_getElem h00,Option.some.injEq] at hf
   rw [← hf]
   exact rdP L 0 h00
  have pf:PQ f:=hP f (by rw [List.getElem?_eq_getElem h00,Option.some.injEq] at hf;rw [← hf];exact List.getElem_mem h00)
  have le:=of_spec L[i].f1 (by have:=pq.len;omega) LE
  have head:∀ r,(Y (lev L[i])=[]->r=(0,false))->Ev (fun k=>spec_l3Row.j1 k L (i:Int) (lev L[i]) L (L.length:Int) (i:Int) (!okP f q L[i]) L[i].f0 L[i].f1 L[i].f2 L[i].f3 L[i].f4 L[i].f5.f0 L[i].f5.f1 L[i].f5.f2) r->Ev (fun k=>spec_l3Row.l0 k L L (L.length:Int) (i:Int)) r:=by
   intro r hr e
   unfold okP at e
   refine ev_step (fun _=>spec_l3Row.l0.eq_2 ..) (ev_pos (by omega) (ev_pos (by omega) (ev_pos (by omega) ?_)))
   rw [rdP L i hlt]
   refine ev_bind le ?_
   rw [Y_eq,Y_eq]
   refine ev_ite (fun h => ?_) (fun h=>by rw [decide_eq_false h,Bool.false_and,Bool.not_false] at e;exact e)
   rw [decide_eq_true h,Bool.true_and] at e
   refine ev_ite (fun h => ?_) (fun h => ?_)
   ·rw [hr h]
    exact ev_step (fun _=>spec_l3Row.j1.eq_2 ..) (ev_pos rfl (ev_now _))
   ·refine ev_ite (fun h => ?_) (fun h => ?_)
    ·rw [decide_eq_false (show ¬ 0<=L[i].f2 by omega),Bool.false_and,Bool.and_false,Bool.and_false,Bool.and_false,Bool.not_false] at e
     exact e
    ·rw [decide_eq_true (show 0<=L[i].f2 by omega),Bool.true_and] at e
     refine ev_ite (fun h => ?_) (fun h => ?_)
     ·have hp:i-1<L.length:=by omega
      rw [(h1 hp (by omega)).1] at e
      refine ev_pos (by omega) ?_
      rw [hf0]
      refine ev_bind (alike_spec f L[i] pf.fit pq.fit pf.len pq.len) ?_
      have b3:(f.f3==L[i].f3)=decide (L[i].f3=f.f3):=by cases f.f3 <;> cases L[i].f3 <;> rfl
      have b4:(f.f4==L[i].f4)=decide (L[i].f4=f.f4):=by rw [Bool.eq_iff_iff,beq_iff_eq,decide_eq_true_eq];exact eq_comm
      have b1:eqLL (noLe f.f1) (noLe L[i].f1)=eqLL (noLe L[i].f1) (noLe f.f1):=by rw [Bool.eq_iff_iff,eqLL_iff,eqLL_iff];exact eq_comm
      rw [b3,b4,b1]
      simp only at e
      refine ev_ite (fun h => ?_) (fun h => ?_)
      ·simp only [Bool.and_eq_true] at h
       rw [h.2.1,h.2.2,h.1,Bool.true_and,Bool.true_and,Bool.true_and] at e
       rw [show wrap64 ((i:Int)-1)=((i-1:Nat):Int) from by rw [w64 (by omega) (by omega)];omega]
       refine ev_pos (by omega) (ev_pos (by omega) ?_)
       rw [rdP L _ hp]
       rw [show (!decide (L[i-1].f2<=L[i].f2))=decide (L[i].f2<L[i-1].f2) from by rw [← decide_not];congr 1;rw [eq_iff_iff];omega] at e
       exact e
      ·have:(decide (L[i].f3=f.f3)&&(decide (L[i].f4=f.f4)&&(eqLL (noLe L[i].f1) (noLe f.f1)&&decide (L[i-1].f2<=L[i].f2))))=false:=by
        cases h3:decide (L[i].f3=f.f3) <;> cases h4:decide (L[i].f4=f.f4) <;> cases h5:eqLL (noLe L[i].f1) (noLe f.f1) <;> rw [h3,h4,h5] at h <;> simp at h ⊢
       rw [this,Bool.not_false] at e
       exact e
     ·obtain rfl:i=0:=by omega
      rw [h0 rfl] at e
      have hfe:L[0]=f:=by rw [List.getElem?_eq_getElem h00,Option.some.injEq] at hf;exact hf
      rw [hfe,decide_eq_true rfl,decide_eq_true rfl,(eqLL_iff _ _).2 rfl] at e
      rw [hfe]
      exact e
  rw [List.drop_eq_getElem_cons hlt]
  have nul:Y (lev L[i])=[]->numO (lev L[i])=none:=by
   intro h
   cases hn:numO (lev L[i]) with
   | none=>rfl
   | some v =>
    have e:lev L[i]=⟨#[]⟩:=Y_inj (by rw [h])
    rw [e] at hn
    exact absurd hn (by unfold numO impl_readInt.f;rw [if_pos (by decide)];simp [Lib.atoiAll])
  refine head _ (fun h => ?_) ?_
  ·simp only [scan]
   rw [nul h,if_neg (show ¬ Y (lev L[i])=INF from by rw [h];decide)]
   split
   ·rename_i h2;rfl
   ·rename_i p t h2
    split at h2
    ·cases h2
    ·cases h2
  ·simp only [scan]
   refine ev_step (fun _=>spec_l3Row.j1.eq_2 ..) ?_
   cases ho:okP f q L[i] with
   | false=>exact ev_pos rfl (ev_now _)
   | true =>
    refine ev_neg (by decide) ?_
    rw [if_pos rfl,Y_eq]
    refine ev_ite (fun h => ?_) (fun h => ?_)
    ·rw [if_pos h]
     rw [show wrap64 ((i:Int)+3)=((i+3:Nat):Int) from by rw [w64 (by omega) (by omega)];omega,show wrap64 ((i:Int)+1)=((i+1:Nat):Int) from w64n hlt (by omega),show wrap64 ((i:Int)+2)=((i+2:Nat):Int) from by rw [w64 (by omega) (by omega)];omega]
     refine ev_ite (fun h => ?_) (fun h => ?_)
     ·have:(L.drop (i+1)).length<=1:=by rw [List.length_drop];omega
      match hd:L.drop (i+1) with
      | []=>exact ev_now _
      | [a]=>exact ev_now _
      | a::b::r=>rw [hd] at this;simp at this
     ·have ha:i+1<L.length:=by omega
      have hb:i+2<L.length:=by omega
      rw [List.drop_eq_getElem_cons ha,List.drop_eq_getElem_cons (show i+1+1<L.length from hb)]
      have pa:=hP _ (List.getElem_mem ha)
      have pb:=hP _ (List.getElem_mem hb)
      refine ev_pos (by omega) (ev_pos (by omega) (ev_pos (by omega) (ev_pos (by omega) ?_)))
      rw [rdP L _ ha,rdP L _ hb,Y_eq,Y_eq]
      have hidx:((i+3:Nat):Int)=(L.length:Int)-((L.drop (i+1+1+1)).length:Int):=by rw [List.length_drop];omega
      rw [hidx]
      simp only
      unfold okS
      refine ev_ite (fun h => ?_) (fun h=>by rw [decide_eq_false h,Bool.false_and];exact ev_now _)
      rw [decide_eq_true h,Bool.true_and]
      refine ev_ite (fun h => ?_) (fun h=>by rw [decide_eq_false h,Bool.false_and];exact ev_now _)
      rw [decide_eq_true h,Bool.true_and]
      refine ev_ite (fun h => ?_) (fun h=>by rw [decide_eq_false h,Bool.false_and];exact ev_now _)
      rw [decide_eq_true h,Bool.true_and]
      refine ev_bind (of_spec _ (by have:=pa.len;omega) LE) ?_
      rw [Y_eq]
      refine ev_ite (fun h => ?_) (fun h=>by rw [decide_eq_false (show ¬ Y (lev L[i+1])=[] from h),Bool.false_and];exact ev_now _)
      rw [decide_eq_true (show Y (lev L[i+1])=[] from h),Bool.true_and]
      refine ev_bind (of_spec _ (by have:=pb.len;omega) LE) ?_
      rw [Y_eq]
      refine ev_ite (fun h => ?_) (fun h=>by rw [decide_eq_false (show ¬ Y (lev L[i+2])=[] from h),Bool.false_and];exact ev_now _)
      rw [decide_eq_true (show Y (lev L[i+2])=[] from h),Bool.true_and]
      refine ev_bind (alike_spec L[i] L[i+1] pq.fit pa.fit pq.len pa.len) ?_
      refine ev_ite (fun h => ?_) (fun h=>by rw [show alk L[i] L[i+1]=false from Bool.eq_false_iff.2 h,Bool.false_and];exact ev_now _)
      rw [show alk L[i] L[i+1]=true from h,Bool.true_and]
      exact ev_bind (alike_spec L[i] L[i+2] pq.fit pb.fit pq.len pb.len) (ev_now _)
    ·rw [if_neg h]
     obtain ⟨x,y,_,n1⟩:=numO_both (lev L[i]) pq.le
     refine ev_bind n1 ?_
     rw [w64n hlt (by omega)]
     cases hn:numO (lev L[i]) with
     | none=>exact ev_neg (by simp) (ev_now _)
     | some v =>
      have next:=ih (i+1) v (some L[i]) (by omega) (fun h=>by omega) (fun _ _=>⟨rfl,hn⟩)
      refine ev_pos rfl (ev_ite (fun h => ?_) (fun h => ?_))
      ·have hp:i-1<L.length:=by omega
       obtain ⟨hq,hlast⟩:=h1 hp (by omega)
       have pp:=hP _ (List.getElem_mem hp)
       rw [show wrap64 ((i:Int)-1)=((i-1:Nat):Int) from by rw [w64 (by omega) (by omega)];omega]
       refine ev_pos (by omega) (ev_pos (by omega) ?_)
       rw [rdP L _ hp]
       refine ev_bind (of_spec _ (by have:=pp.len;omega) LE) ?_
       obtain ⟨x2,y2,_,n2⟩:=numO_both (lev L[i-1]) pp.le
       rw [hlast] at n2
       refine ev_bind n2 ?_
       rw [hq]
       refine ev_ite (fun h2 => ?_) (fun h2 => ?_)
       ·simp only
        rw [if_pos ⟨rfl,h2⟩]
        exact ev_now _
       ·simp only
        rw [if_neg (fun h3=>h2 h3.2)]
        exact next
      ·rw [h0 (by omega)]
       simp only
       rw [if_neg (fun h3=>by cases h3.1)]
       exact next
theorem row_f (hl:L.length<=1048576)(hP:∀ p∈L,PQ p):Ev (fun k=>spec_l3Row.f k L) (rowS L):=by
 unfold spec_l3Row.f
 cases L with
 | nil=>exact ev_step (fun _=>spec_l3Row.l0.eq_2 ..) (ev_neg (by simp) (ev_now _))
 | cons f t =>
  have key:=row_l (f::t) f rfl hl hP (f::t).length 0 0 none (by omega) (fun _=>rfl) (fun _ h=>by omega)
  rw [List.drop_zero] at key
  exact key
end
theorem hist_spec:∀ (n:Nat) (l:List Pt),l.length<=n->l.length<=1048576->(∀ p∈l,PQ p)->Ev (fun k=>spec_GoodFamily.l2 k l) (histS n l):=by
 intro n
 induction n with
 | zero =>
  intro l hn _ _
  obtain rfl:=List.eq_nil_of_length_eq_zero (by omega:l.length=0)
  exact ev_step (fun _=>spec_GoodFamily.l2.eq_2 ..) (ev_neg (by simp) (ev_now _))
 | succ n ih =>
  intro l hn hl hP
  match l,hn,hl,hP with
  | [],_,_,_=>exact ev_step (fun _=>spec_GoodFamily.l2.eq_2 ..) (ev_neg (by simp) (ev_now _))
  | f::t,hn,hl,hP =>
   have row:=row_f (f::t) hl hP
   refine ev_step (fun _=>spec_GoodFamily.l2.eq_2 ..) (ev_pos (by simp) ?_)
   match hs:scan f none 0 (f::t) with
   | none =>
    rw [show rowS (f::t)=(0,false) from by simp only [rowS,hs]] at row
    rw [show histS (n+1) (f::t)=false from by simp only [histS,hs]]
    exact ev_bind row (ev_neg (by simp) (ev_now _))
   | some (p,[]) =>
    rw [show rowS (f::t)=(0,false) from by simp only [rowS,hs]] at row
    rw [show histS (n+1) (f::t)=false from by simp only [histS,hs]]
    exact ev_bind row (ev_neg (by simp) (ev_now _))
   | some (p,[a]) =>
    rw [show rowS (f::t)=(0,false) from by simp only [rowS,hs]] at row
    rw [show histS (n+1) (f::t)=false from by simp only [histS,hs]]
    exact ev_bind row (ev_neg (by simp) (ev_now _))
   | some (p,a::b::r) =>
    rw [show rowS (f::t)=(((f::t).length:Int)-(r.length:Int),okS p a b) from by simp only [rowS,hs]] at row
    rw [show histS (n+1) (f::t)=(okS p a b&&histS n r) from by simp only [histS,hs]]
    obtain ⟨⟨pre,e,_⟩,_⟩:=scan_spec f _ _ _ _ _ hs
    have hlen:(f::t).length=pre.length+(r.length+3):=by rw [e];simp only [List.length_append,List.length_cons]
    have hdrop:(f::t).drop (((f::t).length:Int)-(r.length:Int)).toNat=r:=by
     rw [show (((f::t).length:Int)-(r.length:Int)).toNat=pre.length+3 from by omega,e,show pre++p::a::b::r=(pre++[p,a,b])++r by simp]
     exact List.drop_left' (by simp)
    refine ev_bind row ?_
    simp only
    rw [hdrop]
    refine ev_ite (fun h => ?_) (fun h=>by rw [Bool.eq_false_iff.2 h,Bool.false_and];exact ev_now _)
    rw [h,Bool.true_and]
    exact ih r (by omega) (by omega) (fun x hx=>hP x (by rw [e];simp [hx]))
end Go.Proofs.YtfdbbpnmnogddaaGreatDoor.U
namespace Go.Proofs.YtfdbbpnmnogddaaGreatDoor.U
open Go.RowKit Go.Proofs.YtfdbbpnmnogddaaGreatDoor.Pr Go.Proofs.YtfdbbpnmnogddaaGreatDoorW.PrintWords Go.Proofs.YtfdbbpnmnogddaaGreatDoorW.PrintLast Go.Proofs.YtfdbbpnmnogddaaGreatDoorW.PrintMore
set_option linter.unusedVariables false
set_option linter.unusedSimpArgs false
theorem isTime_yes {x:Int}(h:0<=x/\x<=1000000000000):impl_isTime.f x=some true/\spec_l3Time.f x=some true:=by
 unfold impl_isTime.f spec_l3Time.f
 rw [if_pos h.1,decide_eq_true h.2]
 exact ⟨rfl,rfl⟩
theorem isTime_no {x:Int}(h:¬ (0<=x/\x<=1000000000000)):impl_isTime.f x=some false/\spec_l3Time.f x=some false:=by
 unfold impl_isTime.f spec_l3Time.f
 by_cases h0:x>=0
 ·rw [if_pos h0,decide_eq_false (by omega)]
  exact ⟨rfl,rfl⟩
 ·rw [if_neg h0]
  exact ⟨rfl,rfl⟩
end Go.Proofs.YtfdbbpnmnogddaaGreatDoor.U
namespace Go.Proofs.YtfdbbpnmnogddaaGreatDoor.U
open Go.RowKit Go.Proofs.YtfdbbpnmnogddaaGreatDoor.Pr Go.Proofs.YtfdbbpnmnogddaaGreatDoorW.PrintWords Go.Proofs.YtfdbbpnmnogddaaGreatDoorW.PrintLast Go.Proofs.YtfdbbpnmnogddaaGreatDoorW.PrintMore
set_option linter.unusedVariables false
set_option linter.unusedSimpArgs false
def itemL (x:S70):List UInt8:=Y x.f0++61::quoteL (Y x.f1)
theorem itemL_len (x:S70)(h:x.f0.size<=40/\x.f1.size<=100):(itemL x).length<=300:=by
 have:=quoteL_len (Y x.f1)
 unfold itemL
 rw [List.length_append,List.length_cons,Y_len]
 rw [Y_len] at this
 omega
theorem item_eq (x:S70):x.f0++(⟨#[61]⟩:ByteArray)++bs (quoteL (Y x.f1))=bs (itemL x):=Y_inj (by rw [Y_app,Y_app,Y_bs,Y_bs];unfold itemL;rw [List.append_assoc];rfl)
def tailT:Bool->List S70->List UInt8
 | _,[]=>[125]
 | b,x::xs=>(if b=true then [] else [44])++(itemL x++tailT false xs)
def textL (l:List S70):List UInt8:=123::tailT true l
theorem joinTail_len (B:Nat):∀ r:List (List UInt8),(∀ x∈r,x.length<=B)->(Lib.joinTail [44] r).length<=r.length*(B+1):=by
 intro r
 induction r with
 | nil=>intro _;simp [Lib.joinTail]
 | cons x r ih =>
  intro h
  have h1:=ih (fun y hy=>h y (List.mem_cons_of_mem _ hy))
  have h2:=h x (List.mem_cons_self ..)
  unfold Lib.joinTail at h1 ⊢
  rw [List.map_cons,List.flatten_cons,List.length_append,List.length_append,List.length_singleton,List.length_cons,Nat.add_mul,Nat.one_mul]
  omega
theorem joinTail_items:∀ l:List S70,Lib.joinTail [44] (l.map itemL)++[125]=tailT false l:=by
 intro l
 induction l with
 | nil=>rfl
 | cons x l ih =>
  simp only [tailT]
  rw [← ih]
  simp [Lib.joinTail]
theorem join_items (l:List S70):Lib.join (l.map itemL) [44]++[125]=tailT true l:=by
 cases l with
 | nil=>rfl
 | cons x l =>
  rw [List.map_cons,Lib.join_cons,List.append_assoc,joinTail_items]
  rfl
theorem join_len (l:List S70)(hn:l.length<=20)(hb:∀ x∈l,x.f0.size<=40/\x.f1.size<=100):(Lib.join (l.map itemL) [44]).length<=6321:=by
 cases l with
 | nil=>simp [Lib.join_nil]
 | cons x l =>
  have h1:=joinTail_len 300 (l.map itemL) (fun y hy=>by
   obtain ⟨z,hz,rfl⟩:=List.mem_map.1 hy
   exact itemL_len z (hb z (List.mem_cons_of_mem _ hz)))
  have h2:=itemL_len x (hb x (List.mem_cons_self ..))
  rw [List.length_map] at h1
  rw [List.length_cons] at hn
  rw [List.map_cons,Lib.join_cons,List.length_append]
  omega
theorem text_impl_l (l:List S70)(hn:l.length<=20)(hb:∀ x∈l,x.f0.size<=40/\x.f1.size<=100):Ev (fun k=>impl_LabelsText.l0 k [] l (l.length:Int) 0) (bs (textL l)):=by
 have hrd:∀ (i:Nat) (h:i<l.length),rd_T70 l (i:Int)=l[i]:=fun i h=>getD_lt h
 have key:=up_ind l.length (fun i=>Ev (fun k=>impl_LabelsText.l0 k ((l.take i).map fun x=>bs (itemL x)) l (l.length:Int) (i:Int)) (bs (textL l))) ?_ ?_ 0 (by omega)
 ·exact key
 ·rw [List.take_length]
  refine ev_step (fun _=>impl_LabelsText.l0.eq_2 ..) (ev_neg (by omega) ?_)
  have e1:((l.map fun x=>bs (itemL x)).map (·.data.toList))=l.map itemL:=by rw [List.map_map];exact congrArg (fun f=>l.map f) (funext fun x=>Y_bs _)
  have e2:=join_len l hn hb
  refine ev_bind (a:=bs (Lib.join (l.map itemL) [44])) (ev_eq ?_) ?_
  ·unfold strings_Join.f
   rw [e1]
   exact if_pos ⟨by rw [List.length_map];omega,by show (Lib.join (l.map itemL) [44]).length<=_;omega⟩
  ·refine ev_pos (by rw [bs_size];omega) ?_
   rw [show (⟨#[123]⟩:ByteArray)=bs [123] from rfl,show (⟨#[125]⟩:ByteArray)=bs [125] from rfl,bs_app,bs_app,bs_size]
   refine ev_pos (by rw [List.length_append,List.length_singleton];omega) ?_
   rw [List.append_assoc,join_items]
   exact ev_now _
 ·intro i h ih
  obtain ⟨b1,b2⟩:=hb l[i] (List.getElem_mem h)
  have ql:=quoteL_len (Y l[i].f1)
  rw [Y_len] at ql
  refine ev_step (fun _=>impl_LabelsText.l0.eq_2 ..) (ev_pos (by omega) (ev_pos (by omega) (ev_pos (by omega) ?_)))
  rw [hrd i h,w64n h (by omega)]
  refine ev_pos (by omega) (ev_bind (quote_impl _ (by omega)) (ev_pos (by rw [ByteArray.size_append,bs_size];show _+1+_<=_;omega) (ev_pos (by rw [List.length_map,List.length_take];omega) ?_)))
  rw [item_eq]
  rw [List.take_succ_eq_append_getElem h,List.map_append] at ih
  exact ih
def textOf (l:List S70):ByteArray:=if goodL l=true then bs (textL l) else bs []
theorem text_impl (l:List S70)(hf:fitL l):Ev (fun k=>impl_LabelsText.f k l) (textOf l):=by
 unfold impl_LabelsText.f textOf
 refine ev_bind (goodLabels_impl l hf) (ev_ite (fun h => ?_) (fun h => ?_))
 ·obtain ⟨h1,h2⟩:=goodL_all h
  rw [if_pos h]
  exact text_impl_l l h1 h2
 ·rw [if_neg h]
  exact ev_now _
end Go.Proofs.YtfdbbpnmnogddaaGreatDoor.U
namespace Go.Proofs.YtfdbbpnmnogddaaGreatDoor.U
open Go.RowKit Go.Proofs.YtfdbbpnmnogddaaGreatDoor.Pr Go.Proofs.YtfdbbpnmnogddaaGreatDoorW.PrintWords Go.Proofs.YtfdbbpnmnogddaaGreatDoorW.PrintLast Go.Proofs.YtfdbbpnmnogddaaGreatDoorW.PrintMore
set_option linter.unusedVariables false
set_option linter.unusedSimpArgs false
def unq:List UInt8->Option (List UInt8 × List UInt8)
 | []=>none
 | [c]=>if c=34 then some ([],[]) else none
 | c::d::r=>if c=34 then some ([],d::r) else if c=92 then (if d=34∨d=92 then (unq r).map (fun p=>(d::p.1,p.2)) else none) else (unq (d::r)).map (fun p=>(c::p.1,p.2))
theorem unq_q (c:UInt8)(r:List UInt8)(h:c=34):unq (c::r)=some ([],r):=by
 cases r with
 | nil=>simp only [unq];exact if_pos h
 | cons d r=>simp only [unq];exact if_pos h
theorem unq_o (c:UInt8)(r:List UInt8)(h:c≠34)(h':c≠92):unq (c::r)=(unq r).map (fun p=>(c::p.1,p.2)):=by
 cases r with
 | nil=>simp only [unq];rw [if_neg h];rfl
 | cons d r=>simp only [unq];rw [if_neg h,if_neg h']
theorem unq_b (c d:UInt8)(r:List UInt8)(h:c=92):unq (c::d::r)=if d=34∨d=92 then (unq r).map (fun p=>(d::p.1,p.2)) else none:=by subst h;rfl
def unqF:List UInt8->Option (List UInt8 × List UInt8)
 | []=>none
 | c::r=>if c=34 then unq r else none
end Go.Proofs.YtfdbbpnmnogddaaGreatDoor.U
namespace Go.Proofs.YtfdbbpnmnogddaaGreatDoor.U
open Go.RowKit Go.Proofs.YtfdbbpnmnogddaaGreatDoor.Pr Go.Proofs.YtfdbbpnmnogddaaGreatDoorW.PrintWords Go.Proofs.YtfdbbpnmnogddaaGreatDoorW.PrintLast Go.Proofs.YtfdbbpnmnogddaaGreatDoorW.PrintMore
set_option linter.unusedVariables false
set_option linter.unusedSimpArgs false
theorem unq_esc (v r:List UInt8):unq (v.flatMap esc++34::r)=some (v,r):=by
 induction v with
 | nil=>exact unq_q 34 r rfl
 | cons c v ih =>
  rw [List.flatMap_cons,List.append_assoc]
  by_cases h:c=34∨c=92
  ·have e:esc c=[92,c]:=by
    unfold esc
    rw [if_pos]
    rcases h with rfl|rfl
    ·exact .inl rfl
    ·exact .inr rfl
   rw [e]
   show unq (92::c::(v.flatMap esc++34::r))=_
   rw [unq_b 92 c _ rfl,if_pos h,ih]
   rfl
  ·have h1:c≠34:=fun e=>h (.inl e)
   have h2:c≠92:=fun e=>h (.inr e)
   have e:esc c=[c]:=by
    unfold esc
    rw [if_neg]
    rintro (q|q)
    ·exact h1 (UInt8.toNat_inj.1 (show c.toNat=(34:UInt8).toNat by have:(34:UInt8).toNat=34:=rfl;omega))
    ·exact h2 (UInt8.toNat_inj.1 (show c.toNat=(92:UInt8).toNat by have:(92:UInt8).toNat=92:=rfl;omega))
   rw [e]
   show unq (c::(v.flatMap esc++34::r))=_
   rw [unq_o c _ h1 h2,ih]
   rfl
theorem quote_inj {a b r s:List UInt8}(h:quoteL a++r=quoteL b++s):a=b/\r=s:=by
 have e:∀ v t:List UInt8,unqF (quoteL v++t)=some (v,t):=fun v t=>by
  show (if (34:UInt8)=34 then unq ((v.flatMap esc++[34])++t) else none)=_
  rw [if_pos rfl,List.append_assoc]
  exact unq_esc v t
 have:=(e a r).symm.trans ((congrArg unqF h).trans (e b s))
 rw [Option.some.injEq,Prod.mk.injEq] at this
 exact this
theorem split_at {c:UInt8}:∀ {a b r s:List UInt8},c ∉ a->c ∉ b->a++c::r=b++c::s->a=b/\r=s
 | [],[],r,s,_,_,h=>⟨rfl,(List.cons.inj h).2⟩
 | [],y::b,r,s,_,hb,h=>absurd (List.cons.inj h).1 (fun e=>hb (by rw [e];exact List.mem_cons_self ..))
 | x::a,[],r,s,ha,_,h=>absurd (List.cons.inj h).1 (fun e=>ha (by rw [← e];exact List.mem_cons_self ..))
 | x::a,y::b,r,s,ha,hb,h=>by
  obtain ⟨e1,e2⟩:=List.cons.inj h
  obtain ⟨e3,e4⟩:=split_at (fun q=>ha (List.mem_cons_of_mem _ q)) (fun q=>hb (List.mem_cons_of_mem _ q)) e2
  exact ⟨by rw [e1,e3],e4⟩
theorem word_off {l:List UInt8}(h:l.all wordC=true){c:UInt8}(hc:wordC c=false):c ∉ l:=fun hm=>by
 have:=List.all_eq_true.1 h c hm
 rw [hc] at this
 cases this
theorem item_inj {x y:S70}{r s:List UInt8}(hx:(Y x.f0).all wordC=true)(hy:(Y y.f0).all wordC=true)(h:itemL x++r=itemL y++s):x=y/\r=s:=by
 unfold itemL at h
 rw [List.append_assoc,List.append_assoc] at h
 obtain ⟨e1,e2⟩:=split_at (word_off hx (c:=61) (by decide)) (word_off hy (by decide)) h
 obtain ⟨e3,e4⟩:=quote_inj e2
 refine ⟨?_,e4⟩
 cases x;cases y
 congr
 ·exact Y_inj e1
 ·exact Y_inj e3
theorem tail_inj:∀ (l m:List S70) (b:Bool),(∀ x∈l,(Y x.f0).all wordC=true/\Y x.f0≠[])->(∀ x∈m,(Y x.f0).all wordC=true/\Y x.f0≠[])->tailT b l=tailT b m->l=m
 | [],[],_,_,_,_=>rfl
 | [],y::ys,b,_,hm,h=>by
  exfalso
  obtain ⟨h1,h2⟩:=hm y (List.mem_cons_self ..)
  simp only [tailT] at h
  cases b with
  | true =>
   rw [if_pos rfl,List.nil_append] at h
   unfold itemL at h
   cases hy:Y y.f0 with
   | nil=>exact h2 hy
   | cons c r =>
    rw [hy] at h h1
    have e:(125:UInt8)=c:=(List.cons.inj h).1
    rw [← e] at h1
    rw [List.all_cons] at h1
    exact absurd h1 (by simp [show wordC 125=false from by decide])
  | false =>
   rw [if_neg (by decide)] at h
   exact absurd (List.cons.inj h).1 (by decide)
 | x::xs,[],b,hl,hm,h=>by
  exfalso
  obtain ⟨h1,h2⟩:=hl x (List.mem_cons_self ..)
  simp only [tailT] at h
  cases b with
  | true =>
   rw [if_pos rfl,List.nil_append] at h
   unfold itemL at h
   cases hy:Y x.f0 with
   | nil=>exact h2 hy
   | cons c r =>
    rw [hy] at h h1
    have e:c=(125:UInt8):=(List.cons.inj h).1
    rw [e] at h1
    rw [List.all_cons] at h1
    exact absurd h1 (by simp [show wordC 125=false from by decide])
  | false =>
   rw [if_neg (by decide)] at h
   exact absurd (List.cons.inj h).1 (by decide)
 | x::xs,y::ys,b,hl,hm,h=>by
  simp only [tailT] at h
  have h:=List.append_cancel_left h
  obtain ⟨e1,e2⟩:=item_inj (hl x (List.mem_cons_self ..)).1 (hm y (List.mem_cons_self ..)).1 h
  rw [e1,tail_inj xs ys false (fun z hz=>hl z (List.mem_cons_of_mem _ hz)) (fun z hz=>hm z (List.mem_cons_of_mem _ hz)) e2]
theorem good_words {l:List S70}(h:goodL l=true):∀ x∈l,(Y x.f0).all wordC=true/\Y x.f0≠[]:=fun x hx=>by
 unfold goodL at h
 rw [Bool.and_eq_true] at h
 have:=(riseL_all l none h.2 x hx).1
 unfold nameL at this
 simp only [Bool.and_eq_true,decide_eq_true_eq] at this
 exact ⟨this.2,fun e=>by rw [e] at this;exact absurd this.1.1.1 (by decide)⟩
theorem key_inj {a b:ByteArray}{l m:List S70}(ha:(Y a).all wordC=true)(hb:(Y b).all wordC=true)(hl:goodL l=true)(hm:goodL m=true):Y (a++textOf l)=Y (b++textOf m)↔Y a=Y b/\l=m:=by
 have e:∀ (a:ByteArray) (l:List S70),goodL l=true->Y (a++textOf l)=Y a++123::tailT true l:=fun a l h=>by
  unfold textOf
  rw [if_pos h,Y_app,Y_bs]
  rfl
 rw [e a l hl,e b m hm]
 constructor
 ·intro h
  obtain ⟨e1,e2⟩:=split_at (word_off ha (c:=123) (by decide)) (word_off hb (by decide)) h
  exact ⟨e1,tail_inj l m true (good_words hl) (good_words hm) e2⟩
 ·rintro ⟨e1,rfl⟩
  rw [e1]
end Go.Proofs.YtfdbbpnmnogddaaGreatDoor.U
namespace Go.Proofs.YtfdbbpnmnogddaaGreatDoor.U
open Go.RowKit Go.Proofs.YtfdbbpnmnogddaaGreatDoor.Pr Go.Proofs.YtfdbbpnmnogddaaGreatDoorW.PrintWords Go.Proofs.YtfdbbpnmnogddaaGreatDoorW.PrintLast Go.Proofs.YtfdbbpnmnogddaaGreatDoorW.PrintMore
set_option linter.unusedVariables false
set_option linter.unusedSimpArgs false
abbrev NM:ByteArray:=⟨#[95,110,97,109,101]⟩
abbrev TO:List UInt8:=[95,116,111,116,97,108]
abbrev IN:List UInt8:=[95,105,110,102,111]
def sufOK (kd:Int)(s:List UInt8):Bool:=if kd=1 then s == [] else if kd=2 then s==TO else if kd=3 then (s==BU||(s==CO||s==SU)) else s==IN
theorem suf_impl (kd:Int)(s:ByteArray):impl_suffixOf.f kd s=some (sufOK kd (Y s)):=by
 unfold impl_suffixOf.f sufOK
 rw [Y_eq]
 by_cases h1:kd=1
 ·rw [if_pos h1,if_pos h1]
 rw [if_neg h1,if_neg h1]
 by_cases h2:kd=2
 ·rw [if_pos h2,if_pos h2]
 rw [if_neg h2,if_neg h2]
 by_cases h3:kd=3
 ·rw [if_pos h3,if_pos h3]
  by_cases e:Y s=BU
  ·rw [if_pos e,e,beq_self_eq_true,Bool.true_or]
  rw [if_neg e,beq_eq_false_iff_ne.2 e,Bool.false_or]
  by_cases e:Y s=CO
  ·rw [if_pos e,e,beq_self_eq_true,Bool.true_or]
  rw [if_neg e,beq_eq_false_iff_ne.2 e,Bool.false_or]
 rw [if_neg h3,if_neg h3]
theorem suf_spec (kd:Int)(hk:1<=kd/\kd<=4)(s:ByteArray):spec_l3Belongs.f kd s=some (sufOK kd (Y s)):=by
 rw [← suf_impl]
 unfold spec_l3Belongs.f impl_suffixOf.f
 by_cases h1:kd=1
 ·rw [if_pos h1,if_pos h1]
 rw [if_neg h1,if_neg h1]
 by_cases h2:kd=2
 ·rw [if_pos h2,if_pos h2]
 rw [if_neg h2,if_neg h2]
 by_cases h3:kd=3
 ·rw [if_pos h3,if_pos h3]
 rw [if_neg h3,if_neg h3,if_pos (by omega)]
def timeOK (p:Pt):Bool:=if p.f3=true then decide (0<=p.f4/\p.f4<=1000000000000) else p.f4==0
def headOK (nm:ByteArray)(kd:Int)(p:Pt):Bool:=nameL (Y (nm++p.f0))&&(sufOK kd (Y p.f0)&&(goodL p.f1&&(decide (p.f1.length<=19)&&(decide (Y (ofL NM p.f1)=[]) && !(p.f2 == -9223372036854775808)))))
def exI (p:Pt):Bool:=if p.f5.f0=true then goodL p.f5.f1 && !(decide (p.f5.f2 = -9223372036854775808)) else decide (p.f5.f1.length=0)&&p.f5.f2==0
def kdI (kd:Int)(p:Pt):Bool:=if kd=1 then !p.f5.f0 else if kd=4 then !p.f5.f0&&p.f2==1 else if kd=2 then decide (p.f2>=0) else true
def ptI (nm:ByteArray)(kd:Int)(p:Pt):Bool:=headOK nm kd p&&(timeOK p&&(exI p&&kdI kd p))
def exS (p:Pt):Bool:=if p.f5.f0=true then (decide (Y p.f0=TO)||decide (Y p.f0=BU))&&(goodL p.f5.f1&&(p.f5.f2 != -9223372036854775808)) else decide (p.f5.f1.length=0)&&p.f5.f2==0
def ptS (nm:ByteArray)(kd:Int)(p:Pt):Bool:=headOK nm kd p&&(timeOK p&&exS p)
def kdS (kd:Int)(p:Pt):Bool:=!(decide (kd=2)&&decide (p.f2<0)) && !(decide (kd=4)&&(p.f2 != 1))
structure PF (nm:ByteArray) (p:Pt):Prop where
 f1:fitL p.f1
 f5:fitL p.f5.f1
 sz:(nm++p.f0).size<=9223372036854775807
theorem point_impl (nm:ByteArray)(kd:Int)(hp:ByteArray)(L:List Pt)(p:Pt)(h:PF nm p):Ev (fun k=>impl_goodPoint.f k nm kd hp L p.f0 p.f1 p.f2 p.f3 p.f4 p.f5.f0 p.f5.f1 p.f5.f2) (ptI nm kd p):=by
 have hz:nm.size+p.f0.size<=9223372036854775807:=by have:=h.sz;rw [ByteArray.size_append] at this;exact this
 have j0:∀ b:Bool,Ev (fun k=>impl_goodPoint.j0 k b nm kd hp L p.f0 p.f1 p.f2 p.f3 p.f4 p.f5.f0 p.f5.f1 p.f5.f2) (!b&&(timeOK p&&(exI p&&kdI kd p))):=by
  have j2:∀ b:Bool,Ev (fun k=>impl_goodPoint.j2 k b nm kd hp L p.f0 p.f1 p.f2 p.f3 p.f4 p.f5.f0 p.f5.f1 p.f5.f2) (!b&&kdI kd p):=by
   intro b
   refine ev_step (fun _=>impl_goodPoint.j2.eq_2 ..) ?_
   cases b with
   | true=>exact ev_pos rfl (ev_now _)
   | false =>
    refine ev_neg (by decide) ?_
    unfold kdI
    refine ev_ite (fun h1=>by rw [if_pos h1];exact ev_now _) (fun h1 => ?_)
    rw [if_neg h1]
    refine ev_ite (fun h2 => ?_) (fun h2 => ?_)
    ·rw [if_pos h2]
     refine ev_ite (fun h3=>by rw [h3];exact ev_now _) (fun h3=>by rw [Bool.eq_false_iff.2 h3];exact ev_now _)
    ·rw [if_neg h2]
     exact ev_ite (fun h3=>by rw [if_pos h3];exact ev_now _) (fun h3=>by rw [if_neg h3];exact ev_now _)
  have j1:∀ b:Bool,Ev (fun k=>impl_goodPoint.j1 k b nm kd hp L p.f0 p.f1 p.f2 p.f3 p.f4 p.f5.f0 p.f5.f1 p.f5.f2) (!b&&(exI p&&kdI kd p)):=by
   intro b
   refine ev_step (fun _=>impl_goodPoint.j1.eq_2 ..) ?_
   cases b with
   | true=>exact ev_pos rfl (ev_now _)
   | false =>
    refine ev_neg (by decide) ?_
    unfold exI
    refine ev_ite (fun h1 => ?_) (fun h1 => ?_)
    ·rw [if_pos h1]
     refine ev_bind (goodLabels_impl _ h.f5) (ev_ite (fun h2 => ?_) (fun h2=>by rw [Bool.eq_false_iff.2 h2];exact j2 true))
     rw [h2]
     refine ev_ite (fun h3=>by rw [decide_eq_true h3];exact j2 true) (fun h3=>by rw [decide_eq_false h3];exact j2 false)
    ·rw [if_neg h1]
     refine ev_ite (fun h2=>by rw [decide_eq_false (by omega)];exact j2 true) (fun h2 => ?_)
     rw [decide_eq_true (by omega)]
     have:=j2 (p.f5.f2 != 0)
     rw [show (!(p.f5.f2 != 0))=(p.f5.f2==0) from by simp [bne]] at this
     exact this
  intro b
  refine ev_step (fun _=>impl_goodPoint.j0.eq_2 ..) ?_
  cases b with
  | true=>exact ev_pos rfl (ev_now _)
  | false =>
   refine ev_neg (by decide) ?_
   unfold timeOK
   refine ev_ite (fun h1 => ?_) (fun h1 => ?_)
   ·rw [if_pos h1]
    by_cases h2:0<=p.f4/\p.f4<=1000000000000
    ·refine ev_bind (ev_eq (isTime_yes h2).1) (ev_pos rfl ?_)
     rw [decide_eq_true h2]
     exact j1 false
    ·refine ev_bind (ev_eq (isTime_no h2).1) (ev_neg (by decide) ?_)
     rw [decide_eq_false h2]
     exact j1 true
   ·rw [if_neg h1]
    have:=j1 (p.f4 != 0)
    rw [show (!(p.f4 != 0))=(p.f4==0) from by simp [bne]] at this
    exact this
 unfold impl_goodPoint.f ptI headOK
 refine ev_pos hz (ev_bind (name_impl _ h.sz) (ev_ite (fun h1 => ?_) (fun h1=>by rw [Bool.eq_false_iff.2 h1];exact j0 true)))
 rw [h1]
 refine ev_bind (ev_eq (suf_impl kd p.f0)) (ev_ite (fun h2 => ?_) (fun h2=>by rw [Bool.eq_false_iff.2 h2];exact j0 true))
 rw [h2]
 refine ev_bind (goodLabels_impl _ h.f1) (ev_ite (fun h3 => ?_) (fun h3=>by rw [Bool.eq_false_iff.2 h3];exact j0 true))
 rw [h3]
 refine ev_ite (fun h4=>by rw [decide_eq_false (by omega)];exact j0 true) (fun h4 => ?_)
 rw [decide_eq_true (by omega)]
 refine ev_bind (of_impl p.f1 h.f1.1 NM) ?_
 rw [Y_eq]
 refine ev_ite (fun h5 => ?_) (fun h5=>by rw [decide_eq_false h5];exact j0 true)
 rw [decide_eq_true h5]
 exact j0 (p.f2 == -9223372036854775808)
theorem point_spec (nm:ByteArray)(kd:Int)(hk:1<=kd/\kd<=4)(hp:ByteArray)(L:List Pt)(p:Pt)(h:PF nm p):Ev (fun k=>spec_l3Point.f k nm kd hp L p.f0 p.f1 p.f2 p.f3 p.f4 p.f5.f0 p.f5.f1 p.f5.f2) (ptS nm kd p):=by
 have hz:nm.size+p.f0.size<=9223372036854775807:=by have:=h.sz;rw [ByteArray.size_append] at this;exact this
 have j0:∀ b:Bool,Ev (fun k=>spec_l3Point.j0 k b p.f0 p.f1 p.f2 p.f3 p.f4 p.f5.f0 p.f5.f1 p.f5.f2) (!b&&(timeOK p&&exS p)):=by
  have j1:∀ b:Bool,Ev (fun k=>spec_l3Point.j1 k b p.f0 p.f1 p.f2 p.f3 p.f4 p.f5.f0 p.f5.f1 p.f5.f2) (!b&&exS p):=by
   intro b
   refine ev_step (fun _=>spec_l3Point.j1.eq_2 ..) ?_
   cases b with
   | true=>exact ev_pos rfl (ev_now _)
   | false =>
    refine ev_neg (by decide) ?_
    unfold exS
    refine ev_ite (fun h1 => ?_) (fun h1 => ?_)
    ·rw [if_pos h1,Y_eq]
     refine ev_ite (fun h2 => ?_) (fun h2 => ?_)
     ·rw [decide_eq_true h2,Bool.true_or]
      exact ev_bind (goodLabels_spec _ h.f5) (ev_ite (fun h3=>by rw [h3];exact ev_now _) (fun h3=>by rw [Bool.eq_false_iff.2 h3];exact ev_now _))
     ·rw [decide_eq_false h2,Bool.false_or]
      refine ev_ite (fun h4 => ?_) (fun h4=>by rw [decide_eq_false h4];exact ev_now _)
      rw [decide_eq_true h4]
      exact ev_bind (goodLabels_spec _ h.f5) (ev_ite (fun h3=>by rw [h3];exact ev_now _) (fun h3=>by rw [Bool.eq_false_iff.2 h3];exact ev_now _))
    ·rw [if_neg h1]
     refine ev_ite (fun h2 => ?_) (fun h2=>by rw [decide_eq_false (by omega)];exact ev_now _)
     rw [decide_eq_true (by omega)]
     exact ev_now _
  intro b
  refine ev_step (fun _=>spec_l3Point.j0.eq_2 ..) ?_
  cases b with
  | true=>exact ev_pos rfl (ev_now _)
  | false =>
   refine ev_neg (by decide) ?_
   unfold timeOK
   refine ev_ite (fun h1 => ?_) (fun h1 => ?_)
   ·rw [if_pos h1]
    by_cases h2:0<=p.f4/\p.f4<=1000000000000
    ·refine ev_bind (ev_eq (isTime_yes h2).2) (ev_pos rfl ?_)
     rw [decide_eq_true h2]
     exact j1 false
    ·refine ev_bind (ev_eq (isTime_no h2).2) (ev_neg (by decide) ?_)
     rw [decide_eq_false h2]
     exact j1 true
   ·rw [if_neg h1]
    have:=j1 (p.f4 != 0)
    rw [show (!(p.f4 != 0))=(p.f4==0) from by simp [bne]] at this
    exact this
 unfold spec_l3Point.f ptS headOK
 refine ev_pos hz (ev_bind (name_spec _ h.sz) (ev_ite (fun h1 => ?_) (fun h1=>by rw [Bool.eq_false_iff.2 h1];exact j0 true)))
 rw [h1]
 refine ev_bind (ev_eq (suf_spec kd hk p.f0)) (ev_ite (fun h2 => ?_) (fun h2=>by rw [Bool.eq_false_iff.2 h2];exact j0 true))
 rw [h2]
 refine ev_bind (goodLabels_spec _ h.f1) (ev_ite (fun h3 => ?_) (fun h3=>by rw [Bool.eq_false_iff.2 h3];exact j0 true))
 rw [h3]
 refine ev_ite (fun h4=>by rw [decide_eq_false (by omega)];exact j0 true) (fun h4 => ?_)
 rw [decide_eq_true (by omega)]
 refine ev_bind (of_spec p.f1 h.f1.1 NM) ?_
 rw [Y_eq]
 refine ev_ite (fun h5 => ?_) (fun h5=>by rw [decide_eq_false h5];exact j0 true)
 rw [decide_eq_true h5]
 exact j0 (p.f2 == -9223372036854775808)
theorem point_eq (nm:ByteArray)(kd:Int)(hk:1<=kd/\kd<=4)(p:Pt):(ptS nm kd p&&kdS kd p)=(ptI nm kd p&&(!decide (kd=3)||exOK p)):=by
 unfold ptS ptI
 cases hh:headOK nm kd p with
 | false=>rfl
 | true =>
  cases ht:timeOK p with
  | false=>rfl
  | true =>
   have hs:sufOK kd (Y p.f0)=true:=by
    unfold headOK at hh
    simp only [Bool.and_eq_true] at hh
    exact hh.2.1
   unfold exS exI kdS kdI exOK
   simp only [Bool.true_and]
   have bn:(p.f5.f2 != -9223372036854775808) = !(decide (p.f5.f2 = -9223372036854775808)):=by
    by_cases e:p.f5.f2 = -9223372036854775808
    ·rw [e];rfl
    ·rw [decide_eq_false e,bne_iff_ne.2 e];rfl
   rw [bn]
   unfold sufOK at hs
   rcases (by omega:kd=1∨kd=2∨kd=3∨kd=4) with rfl|rfl|rfl|rfl
   ·rw [if_pos rfl] at hs
    have e:=eq_of_beq hs
    rw [e]
    cases p.f5.f0 <;> simp
   ·simp at hs
    cases p.f5.f0 <;> simp [hs] <;> by_cases e:p.f2<0 <;> simp [e] <;> omega
   ·cases p.f5.f0 with
    | false=>simp
    | true =>
     simp at hs ⊢
     rcases hs with e|e|e <;> simp [e]
   ·simp at hs
    cases p.f5.f0 <;> simp [hs,bne]
end Go.Proofs.YtfdbbpnmnogddaaGreatDoor.U
namespace Go.Proofs.YtfdbbpnmnogddaaGreatDoor.U
open Go.RowKit Go.Proofs.YtfdbbpnmnogddaaGreatDoor.Pr Go.Proofs.YtfdbbpnmnogddaaGreatDoorW.PrintWords Go.Proofs.YtfdbbpnmnogddaaGreatDoorW.PrintLast Go.Proofs.YtfdbbpnmnogddaaGreatDoorW.PrintMore
set_option linter.unusedVariables false
set_option linter.unusedSimpArgs false
def keyP (p:Pt):ByteArray:=p.f0++textOf p.f1
def dupK (p q:Pt):Bool:=decide (Y q.f0=Y p.f0)&&eqLL q.f1 p.f1
def ptsI (nm:ByteArray)(kd:Int):List Pt->List Pt->Bool
 | _,[]=>true
 | done,p::t=>ptI nm kd p&&(!(done.any (dupK p))&&ptsI nm kd (done++[p]) t)
def ptsS (nm:ByteArray)(kd:Int):List Pt->List Pt->Bool
 | _,[]=>true
 | done,p::t=>(ptS nm kd p&&kdS kd p)&&(!(done.any (dupK p))&&ptsS nm kd (done++[p]) t)
theorem pts_eq (nm:ByteArray)(kd:Int)(hk:1<=kd/\kd<=4):∀ (l done:List Pt),ptsS nm kd done l=(ptsI nm kd done l&&(!decide (kd=3)||l.all exOK))
 | [],done=>by simp [ptsS,ptsI]
 | p::t,done=>by
  simp only [ptsS,ptsI,List.all_cons]
  rw [point_eq nm kd hk p,pts_eq nm kd hk t]
  cases ptI nm kd p <;> cases decide (kd=3) <;> cases exOK p <;> cases done.any (dupK p) <;> cases ptsI nm kd (done++[p]) t <;> cases t.all exOK <;> rfl
theorem ptsI_all (nm:ByteArray)(kd:Int):∀ (l done:List Pt),ptsI nm kd done l=true->∀ p∈l,ptI nm kd p=true
 | [],_,_=>fun _ h=>by cases h
 | x::t,done,h=>fun p hp=>by
  simp only [ptsI,Bool.and_eq_true] at h
  rcases List.mem_cons.1 hp with rfl|hp
  ·exact h.1
  ·exact ptsI_all nm kd t _ h.2.2 p hp
theorem ptI_lab {nm:ByteArray}{kd:Int}{p:Pt}(h:ptI nm kd p=true):goodL p.f1=true/\(Y p.f0).all wordC=true:=by
 unfold ptI headOK at h
 simp only [Bool.and_eq_true] at h
 refine ⟨h.1.2.2.1,?_⟩
 have:=h.1.1
 unfold nameL at this
 simp only [Bool.and_eq_true] at this
 rw [Y_app,List.all_append,Bool.and_eq_true] at this
 exact this.2.2
theorem seen_key (nm:ByteArray)(kd:Int)(done:List Pt)(p:Pt)(hd:∀ q∈done,ptI nm kd q=true)(hp:ptI nm kd p=true):inL (done.map keyP) (keyP p)=done.any (dupK p):=by
 unfold inL
 rw [List.any_map]
 rw [Bool.eq_iff_iff,List.any_eq_true,List.any_eq_true]
 obtain ⟨g1,g2⟩:=ptI_lab hp
 have one:∀ q∈done,(decide ((keyP q).data.toList=(keyP p).data.toList)=true↔dupK p q=true):=fun q hq=>by
  obtain ⟨f1,f2⟩:=ptI_lab (hd q hq)
  unfold dupK
  rw [decide_eq_true_eq,Bool.and_eq_true,decide_eq_true_eq,eqLL_iff]
  exact key_inj f2 g2 f1 g1
 constructor
 ·rintro ⟨q,hq,h⟩
  exact ⟨q,hq,(one q hq).1 h⟩
 ·rintro ⟨q,hq,h⟩
  exact ⟨q,hq,(one q hq).2 h⟩
structure FF (nm hp:ByteArray) (l:List Pt):Prop where
 nm:nm.size<=1048576
 hp:hp.size<=1048576
 len:l.length<=1048576
 pt:∀ p∈l,fitL p.f1/\fitL p.f5.f1/\p.f0.size<=1048576/\p.f1.length<=1048576
theorem FF.pf {nm hp:ByteArray}{l:List Pt}(h:FF nm hp l):∀ p∈l,PF nm p:=fun p hp_=>by
 obtain ⟨a,b,c,_⟩:=h.pt p hp_
 have:=h.nm
 exact ⟨a,b,by rw [ByteArray.size_append];omega⟩
theorem textOf_size (l:List S70):(textOf l).size<=1048576:=by
 unfold textOf
 split
 ·rename_i h
  obtain ⟨h1,h2⟩:=goodL_all h
  rw [bs_size]
  unfold textL
  rw [← join_items,List.length_cons,List.length_append,List.length_singleton]
  have:=join_len l h1 h2
  omega
 ·rw [bs_size];simp
def famI (nm:ByteArray)(kd:Int)(hp:ByteArray)(l:List Pt):Bool:=nameL (Y nm)&&(decide (1<=kd/\kd<=4)&&(prL 100 (Y hp)&&(decide (l.length<=100)&&(ptsI nm kd [] l&&(!decide (kd=3)||histI l.length l)))))
theorem pq_of {nm:ByteArray}{kd:Int}{p:Pt}(h:ptI nm kd p=true)(hl:p.f1.length<=1048576)(hf:fitL p.f1):PQ p:=⟨hf,hl,by
 obtain ⟨g,_⟩:=ptI_lab h
 have:=(goodL_all g).2
 have sz:∀ l:List S70,(∀ x∈l,x.f0.size<=40/\x.f1.size<=100)->(ofL LE l).size<=100:=by
  intro l
  induction l with
  | nil=>intro _;decide
  | cons x xs ih =>
   intro h
   simp only [ofL]
   split
   ·exact (h x (List.mem_cons_self ..)).2
   ·exact ih (fun y hy=>h y (List.mem_cons_of_mem _ hy))
 have:=sz p.f1 this
 show (ofL LE p.f1).size<=1000
 omega⟩
theorem fam_impl (nm:ByteArray)(kd:Int)(hp:ByteArray)(l:List Pt)(h:FF nm hp l):Ev (fun k=>impl_GoodFamily.f k nm kd hp l) (famI nm kd hp l):=by
 have hlen:=h.len
 have loop:l.length<=100->∀ (d i:Nat),i+d=l.length->(∀ p∈l.take i,ptI nm kd p=true)->Ev (fun k=>impl_GoodFamily.l0 k ((l.take i).map keyP) l (l.length:Int) (i:Int) nm kd hp l) (ptsI nm kd (l.take i) (l.drop i)&&(!decide (kd=3)||histI l.length l)):=by
  intro hl100 d
  induction d with
  | zero =>
   intro i hi hg
   obtain rfl:i=l.length:=by omega
   rw [List.take_length,List.drop_length]
   rw [List.take_length] at hg
   refine ev_step (fun _=>impl_GoodFamily.l0.eq_2 ..) (ev_neg (by omega) ?_)
   simp only [ptsI,Bool.true_and]
   refine ev_ite (fun h3 => ?_) (fun h3=>by rw [decide_eq_false h3];exact ev_now _)
   rw [decide_eq_true h3]
   exact ev_bind (hist_f l hlen (fun p hp_=>pq_of (hg p hp_) (h.pt p hp_).2.2.2 (h.pt p hp_).1)) (ev_now _)
  | succ d ih =>
   intro i hi hg
   have hlt:i<l.length:=by omega
   have hm:=List.getElem_mem hlt
   have hpt:=h.pt _ hm
   rw [List.drop_eq_getElem_cons hlt]
   simp only [ptsI]
   refine ev_step (fun _=>impl_GoodFamily.l0.eq_2 ..) (ev_pos (by omega) (ev_pos (by omega) (ev_pos (by omega) ?_)))
   rw [rdP l i hlt]
   refine ev_bind (text_impl _ hpt.1) (ev_pos (by have:=textOf_size l[i].f1;have:=hpt.2.2.1;omega) ?_)
   refine ev_bind (point_impl nm kd hp l l[i] (h.pf _ hm)) ?_
   refine ev_ite (fun h1 => ?_) (fun h1=>by rw [Bool.eq_false_iff.2 h1];exact ev_now _)
   rw [h1,Bool.true_and]
   refine ev_some ?_
   rw [show inL ((l.take i).map keyP) (l[i].f0++textOf l[i].f1)=(l.take i).any (dupK l[i]) from seen_key nm kd _ _ hg h1]
   refine ev_ite (fun h2=>by rw [h2];exact ev_now _) (fun h2 => ?_)
   rw [Bool.eq_false_iff.2 h2,Bool.not_false,Bool.true_and]
   refine ev_pos (by rw [List.length_map,List.length_take];omega) ?_
   rw [w64n hlt (by omega)]
   have next:=ih (i+1) (by omega) (fun p hp_=>by
    rw [List.take_succ_eq_append_getElem hlt] at hp_
    rcases List.mem_append.1 hp_ with hp_|hp_
    ·exact hg p hp_
    ·rw [List.mem_singleton.1 hp_];exact h1)
   rw [List.take_succ_eq_append_getElem hlt,List.map_append] at next
   exact next
 have j0:∀ b:Bool,(b=false->l.length<=100)->Ev (fun k=>impl_GoodFamily.j0 k b nm kd hp l) (!b&&(ptsI nm kd [] l&&(!decide (kd=3)||histI l.length l))):=by
  intro b hb
  refine ev_step (fun _=>impl_GoodFamily.j0.eq_2 ..) ?_
  cases b with
  | true=>exact ev_pos rfl (ev_now _)
  | false =>
   have:=loop (hb rfl) l.length 0 (by omega) (fun p hp_=>by rw [List.take_zero] at hp_;cases hp_)
   rw [List.take_zero,List.drop_zero] at this
   exact ev_neg (by decide) this
 have tt:(true=false->l.length<=100):=fun e=>by cases e
 unfold impl_GoodFamily.f famI
 refine ev_bind (name_impl nm (by have:=h.nm;omega)) (ev_ite (fun h1 => ?_) (fun h1=>by rw [Bool.eq_false_iff.2 h1];exact j0 true tt))
 rw [h1,Bool.true_and]
 refine ev_ite (fun h2=>by rw [decide_eq_false (by omega)];exact j0 true tt) (fun h2 => ?_)
 refine ev_ite (fun h3=>by rw [decide_eq_false (by omega)];exact j0 true tt) (fun h3 => ?_)
 rw [decide_eq_true (show 1<=kd/\kd<=4 by omega),Bool.true_and]
 refine ev_bind (printed_impl hp (by have:=h.hp;omega) 100) (ev_ite (fun h4 => ?_) (fun h4=>by rw [Bool.eq_false_iff.2 h4];exact j0 true tt))
 rw [h4,Bool.true_and]
 by_cases h5:l.length<=100
 ·have:=j0 false (fun _=>h5)
  rw [decide_eq_false (show ¬ (l.length:Int)>100 by omega),decide_eq_true h5]
  exact this
 ·have:=j0 true tt
  rw [decide_eq_true (show (l.length:Int)>100 by omega),decide_eq_false h5]
  exact this
theorem fam_spec (nm:ByteArray)(kd:Int)(hp:ByteArray)(l:List Pt)(h:FF nm hp l):Ev (fun k=>spec_GoodFamily.f k nm kd hp l) (famI nm kd hp l):=by
 have hlen:=h.len
 have main:1<=kd/\kd<=4->l.length<=100->Ev (fun k=>spec_GoodFamily.l0 k l (l.length:Int) 0 nm kd hp l) (ptsI nm kd [] l&&(!decide (kd=3)||histI l.length l)):=by
  intro hk hl100
  have inner:∀ (i:Nat) (hi:i<l.length) (r:Bool),Ev (fun k=>spec_GoodFamily.l0 k l (l.length:Int) ((i+1:Nat):Int) nm kd hp l) r->∀ (d j:Nat),j+d=(l.take i).length →
    Ev (fun k=>spec_GoodFamily.l1 k l (l.length:Int) (i:Int) (l.take i) ((l.take i).length:Int) (j:Int) nm kd hp l l[i].f0 l[i].f1 l[i].f2 l[i].f3 l[i].f4 l[i].f5.f0 l[i].f5.f1 l[i].f5.f2) (!(((l.take i).drop j).any (dupK l[i]))&&r):=by
   intro i hi r hr d
   have hle:(l.take i).length<=1048576:=by rw [List.length_take];omega
   induction d with
   | zero =>
    intro j hj
    obtain rfl:j=(l.take i).length:=by omega
    rw [List.drop_length]
    refine ev_step (fun _=>spec_GoodFamily.l1.eq_2 ..) (ev_neg (by omega) ?_)
    rw [w64n hi (by omega)]
    exact hr
   | succ d ih =>
    intro j hj
    have hlt:j<(l.take i).length:=by omega
    have hmq:(l.take i)[j]∈l:=List.mem_of_mem_take (List.getElem_mem hlt)
    rw [List.drop_eq_getElem_cons hlt,List.any_cons]
    refine ev_step (fun _=>spec_GoodFamily.l1.eq_2 ..) (ev_pos (by omega) (ev_pos (by omega) (ev_pos (by omega) ?_)))
    rw [rdP (l.take i) j hlt,Y_eq,Y_eq,w64n hlt (by omega)]
    unfold dupK
    refine ev_ite (fun h1 => ?_) (fun h1 => ?_)
    ·rw [decide_eq_true h1,Bool.true_and,← cmpLL_zero]
     refine ev_bind (cmpLL_spec _ _ (h.pt _ hmq).1 (h.pt _ (List.getElem_mem hi)).1) ?_
     refine ev_ite (fun h2=>by rw [decide_eq_true h2];exact ev_now _) (fun h2 => ?_)
     rw [decide_eq_false h2,Bool.false_or]
     exact ih (j+1) (by omega)
    ·rw [decide_eq_false h1,Bool.false_and,Bool.false_or]
     exact ih (j+1) (by omega)
  have fin:(∀ p∈l,ptI nm kd p=true)->Ev (fun k=>spec_GoodFamily.l0 k l (l.length:Int) (l.length:Int) nm kd hp l) (!decide (kd=3)||histS l.length l):=by
   intro hg
   refine ev_step (fun _=>spec_GoodFamily.l0.eq_2 ..) (ev_neg (by omega) ?_)
   refine ev_ite (fun h3 => ?_) (fun h3=>by rw [decide_eq_false h3];exact ev_now _)
   rw [decide_eq_true h3]
   exact hist_spec l.length l (Nat.le_refl _) hlen (fun p hp_=>pq_of (hg p hp_) (h.pt p hp_).2.2.2 (h.pt p hp_).1)
  have loop:∀ (d i:Nat),i+d=l.length->(∀ p∈l.take i,ptI nm kd p=true)->Ev (fun k=>spec_GoodFamily.l0 k l (l.length:Int) (i:Int) nm kd hp l) (ptsS nm kd (l.take i) (l.drop i)&&(!decide (kd=3)||histS l.length l)):=by
   intro d
   induction d with
   | zero =>
    intro i hi hg
    obtain rfl:i=l.length:=by omega
    rw [List.take_length] at hg
    rw [List.take_length,List.drop_length]
    simp only [ptsS,Bool.true_and]
    exact fin hg
   | succ d ih =>
    intro i hi hg
    have hlt:i<l.length:=by omega
    have hm:=List.getElem_mem hlt
    rw [List.drop_eq_getElem_cons hlt]
    simp only [ptsS]
    refine ev_step (fun _=>spec_GoodFamily.l0.eq_2 ..) (ev_pos (by omega) (ev_pos (by omega) (ev_pos (by omega) ?_)))
    rw [rdP l i hlt]
    have j2:∀ b:Bool,(b=false->ptS nm kd l[i]=true/\kdS kd l[i]=true)->Ev (fun k=>spec_GoodFamily.j2 k (i:Int) l (l.length:Int) (i:Int) b nm kd hp l l[i].f0 l[i].f1 l[i].f2 l[i].f3 l[i].f4 l[i].f5.f0 l[i].f5.f1 l[i].f5.f2) (!b&&(!((l.take i).any (dupK l[i]))&&ptsS nm kd (l.take i++[l[i]]) (l.drop (i+1)))&&(!decide (kd=3)||histS l.length l)):=by
     intro b hb
     refine ev_step (fun _=>spec_GoodFamily.j2.eq_2 ..) ?_
     cases b with
     | true=>exact ev_pos rfl (ev_now _)
     | false =>
      obtain ⟨b1,b2⟩:=hb rfl
      have good:ptI nm kd l[i]=true:=by
       have:=point_eq nm kd hk l[i]
       rw [b1,b2] at this
       cases hz:ptI nm kd l[i] with
       | true=>rfl
       | false=>rw [hz] at this;cases this
      refine ev_neg (by decide) (ev_pos (by omega) (ev_pos (by omega) (ev_some ?_)))
      rw [Int.toNat_natCast]
      have next:=ih (i+1) (by omega) (fun p hp_=>by
       rw [List.take_succ_eq_append_getElem hlt] at hp_
       rcases List.mem_append.1 hp_ with hp_|hp_
       ·exact hg p hp_
       ·rw [List.mem_singleton.1 hp_];exact good)
      rw [List.take_succ_eq_append_getElem hlt] at next
      have e:=inner i hlt _ next (l.take i).length 0 (by omega)
      rw [List.drop_zero] at e
      rw [Bool.not_false,Bool.true_and,Bool.and_assoc]
      exact e
    refine ev_bind (point_spec nm kd hk hp l l[i] (h.pf _ hm)) ?_
    refine ev_ite (fun h1 => ?_) (fun h1=>by rw [Bool.eq_false_iff.2 h1];exact j2 true (fun e=>by cases e))
    rw [h1,Bool.true_and]
    have done:∀ b:Bool,b = !kdS kd l[i]->Ev (fun k=>spec_GoodFamily.j2 k (i:Int) l (l.length:Int) (i:Int) b nm kd hp l l[i].f0 l[i].f1 l[i].f2 l[i].f3 l[i].f4 l[i].f5.f0 l[i].f5.f1 l[i].f5.f2) (kdS kd l[i]&&(!((l.take i).any (dupK l[i]))&&ptsS nm kd (l.take i++[l[i]]) (l.drop (i+1)))&&(!decide (kd=3)||histS l.length l)):=by
     intro b e
     have:=j2 b (fun hb=>⟨h1,by rw [hb] at e;cases hz:kdS kd l[i] with|true=>rfl|false=>rw [hz] at e;cases e⟩)
     rw [e,Bool.not_not] at this
     rw [e]
     exact this
    refine ev_ite (fun h2 => ?_) (fun h2 => ?_)
    ·refine ev_ite (fun h3=>done _ (by unfold kdS;rw [decide_eq_true h2,decide_eq_true h3];rfl)) (fun h3 => ?_)
     exact ev_ite (fun h4=>by omega) (fun h4=>done _ (by unfold kdS;rw [decide_eq_true h2,decide_eq_false h3,decide_eq_false h4];rfl))
    ·exact ev_ite (fun h4=>done _ (by unfold kdS;rw [decide_eq_false h2,decide_eq_true h4,Bool.false_and,Bool.true_and,Bool.not_false,Bool.true_and,Bool.not_not])) (fun h4=>done _ (by unfold kdS;rw [decide_eq_false h2,decide_eq_false h4];rfl))
  have all:=loop l.length 0 (by omega) (fun p hp_=>by rw [List.take_zero] at hp_;cases hp_)
  rw [List.take_zero,List.drop_zero,pts_eq nm kd hk] at all
  have e:(ptsI nm kd [] l&&(!decide (kd=3)||l.all exOK)&&(!decide (kd=3)||histS l.length l))=(ptsI nm kd [] l&&(!decide (kd=3)||histI l.length l)):=by
   cases hz:ptsI nm kd [] l with
   | false=>rfl
   | true =>
    rw [hist_eq l.length l (fun p hp_=>(ptI_lab (ptsI_all nm kd l [] hz p hp_)).1)]
    cases decide (kd=3) <;> cases l.all exOK <;> cases histS l.length l <;> rfl
  rw [e] at all
  exact all
 have no:Ev (fun k=>spec_GoodFamily.j0 k true nm kd hp l) false:=ev_step (fun _=>spec_GoodFamily.j0.eq_2 ..) (ev_pos rfl (ev_now _))
 unfold spec_GoodFamily.f famI
 refine ev_bind (name_spec nm (by have:=h.nm;omega)) (ev_ite (fun h1 => ?_) (fun h1=>by rw [Bool.eq_false_iff.2 h1];exact no))
 rw [h1,Bool.true_and]
 refine ev_ite (fun h2=>by rw [decide_eq_false (by omega)];exact no) (fun h2 => ?_)
 refine ev_ite (fun h3=>by rw [decide_eq_false (by omega)];exact no) (fun h3 => ?_)
 have hk:1<=kd/\kd<=4:=by omega
 rw [decide_eq_true hk,Bool.true_and]
 unfold prL
 rw [Y_len]
 refine ev_ite (fun h4=>by rw [decide_eq_false (by omega)];exact no) (fun h4 => ?_)
 rw [decide_eq_true (show hp.size<=100 by omega),Bool.true_and]
 refine ev_bind (printed_spec hp (by have:=h.hp;omega)) (ev_ite (fun h5 => ?_) (fun h5=>by rw [Bool.eq_false_iff.2 h5];exact no))
 rw [h5,Bool.true_and]
 by_cases h6:l.length<=100
 ·rw [decide_eq_false (show ¬ (l.length:Int)>100 by omega),decide_eq_true h6,Bool.true_and]
  exact ev_step (fun _=>spec_GoodFamily.j0.eq_2 ..) (ev_neg (by decide) (main hk h6))
 ·rw [decide_eq_true (show (l.length:Int)>100 by omega),decide_eq_false h6,Bool.false_and]
  exact no
end Go.Proofs.YtfdbbpnmnogddaaGreatDoor.U
namespace Go.Proofs.YtfdbbpnmnogddaaGreatDoor.U
open Go.RowKit Go.Proofs.YtfdbbpnmnogddaaGreatDoor.Pr Go.Proofs.YtfdbbpnmnogddaaGreatDoorW.PrintWords Go.Proofs.YtfdbbpnmnogddaaGreatDoorW.PrintLast Go.Proofs.YtfdbbpnmnogddaaGreatDoorW.PrintMore
set_option linter.unusedVariables false
set_option linter.unusedSimpArgs false
abbrev Fm:=S29
abbrev SUF:List ByteArray:=[⟨#[]⟩,⟨#[95,116,111,116,97,108]⟩,⟨#[95,98,117,99,107,101,116]⟩,⟨#[95,99,111,117,110,116]⟩,⟨#[95,115,117,109]⟩,⟨#[95,105,110,102,111]⟩]
theorem rdF (l:List Fm)(i:Nat)(h:i<l.length):rd_T29 l (i:Int)=l[i]:=getD_lt h
def famB (f:Fm):Bool:=famI f.f0 f.f1 f.f2 f.f3
abbrev FQ (f:Fm):Prop:=FF f.f0 f.f2 f.f3
def keyF (f:Fm)(p:Pt):ByteArray:=(f.f0++p.f0)++textOf p.f1
def sameK (f:Fm)(p:Pt)(g:Fm)(q:Pt):Bool:=decide (Y (f.f0++p.f0)=Y (g.f0++q.f0))&&eqLL p.f1 q.f1
def clashB (f g:Fm):Bool:=f.f3.any fun p=>g.f3.any fun q=>sameK f p g q
def flatK (l:List Fm):List ByteArray:=l.flatMap fun f=>f.f3.map (keyF f)
theorem famB_parts {f:Fm}(h:famB f=true):f.f3.length<=100/\ptsI f.f0 f.f1 [] f.f3=true:=by
 unfold famB famI at h
 rw [Bool.and_eq_true,Bool.and_eq_true,Bool.and_eq_true,Bool.and_eq_true,Bool.and_eq_true] at h
 exact ⟨of_decide_eq_true h.2.2.2.1,h.2.2.2.2.1⟩
theorem famB_pt {f:Fm}(h:famB f=true):∀ p∈f.f3,ptI f.f0 f.f1 p=true:=ptsI_all f.f0 f.f1 f.f3 [] (famB_parts h).2
theorem ptI_word {nm:ByteArray}{kd:Int}{p:Pt}(h:ptI nm kd p=true):(Y (nm++p.f0)).all wordC=true:=by
 unfold ptI headOK at h
 simp only [Bool.and_eq_true] at h
 have:=h.1.1
 unfold nameL at this
 simp only [Bool.and_eq_true] at this
 exact this.2
theorem ptI_suf {nm:ByteArray}{kd:Int}{p:Pt}(h:ptI nm kd p=true):sufOK kd (Y p.f0)=true:=by
 unfold ptI headOK at h
 simp only [Bool.and_eq_true] at h
 exact h.1.2.1
theorem suf_mem {kd:Int}{s:ByteArray}(h:sufOK kd (Y s)=true):∃ a∈SUF,Y a=Y s:=by
 unfold sufOK at h
 by_cases h1:kd=1
 ·rw [if_pos h1] at h
  exact ⟨_,.head _,(eq_of_beq h).symm⟩
 rw [if_neg h1] at h
 by_cases h2:kd=2
 ·rw [if_pos h2] at h
  exact ⟨_,.tail _ (.head _),(eq_of_beq h).symm⟩
 rw [if_neg h2] at h
 by_cases h3:kd=3
 ·rw [if_pos h3,Bool.or_eq_true,Bool.or_eq_true] at h
  rcases h with h|h|h
  ·exact ⟨_,.tail _ (.tail _ (.head _)),(eq_of_beq h).symm⟩
  ·exact ⟨_,.tail _ (.tail _ (.tail _ (.head _))),(eq_of_beq h).symm⟩
  ·exact ⟨_,.tail _ (.tail _ (.tail _ (.tail _ (.head _)))),(eq_of_beq h).symm⟩
 ·rw [if_neg h3] at h
  exact ⟨_,.tail _ (.tail _ (.tail _ (.tail _ (.tail _ (.head _))))),(eq_of_beq h).symm⟩
theorem key_same {f g:Fm}{p q:Pt}(hp:ptI f.f0 f.f1 p=true)(hq:ptI g.f0 g.f1 q=true):decide (Y (keyF g q)=Y (keyF f p))=sameK f p g q:=by
 unfold sameK keyF
 rw [Bool.eq_iff_iff,decide_eq_true_eq,Bool.and_eq_true,decide_eq_true_eq,eqLL_iff]
 rw [key_inj (ptI_word hq) (ptI_word hp) (ptI_lab hq).1 (ptI_lab hp).1]
 exact ⟨fun h=>⟨h.1.symm,h.2.symm⟩,fun h=>⟨h.1.symm,h.2.symm⟩⟩
theorem any_cong {α:Type}{l:List α}{a b:α->Bool}(h:∀ x∈l,a x=b x):l.any a=l.any b:=by
 induction l with
 | nil=>rfl
 | cons x t ih=>rw [List.any_cons,List.any_cons,h x (List.mem_cons_self ..),ih (fun y hy=>h y (List.mem_cons_of_mem _ hy))]
theorem any_swap {α β:Type}(a:List α)(b:List β)(F:α->β->Bool):a.any (fun x=>b.any (fun y=>F x y))=b.any (fun y=>a.any (fun x=>F x y)):=by
 rw [Bool.eq_iff_iff]
 simp only [List.any_eq_true]
 exact ⟨fun ⟨x,hx,y,hy,h⟩=>⟨y,hy,x,hx,h⟩,fun ⟨y,hy,x,hx,h⟩=>⟨x,hx,y,hy,h⟩⟩
theorem inL_flat (L:List Fm)(f:Fm)(p:Pt)(hL:∀ g∈L,famB g=true)(hp:ptI f.f0 f.f1 p=true):inL (flatK L) (keyF f p)=L.any (fun g=>g.f3.any (fun q=>sameK f p g q)):=by
 unfold inL flatK
 rw [List.any_flatMap]
 refine any_cong (fun g hg => ?_)
 rw [List.any_map]
 exact any_cong (fun q hq=>key_same hp (famB_pt (hL g hg) q hq))
theorem inL_app (a b:List ByteArray)(s:ByteArray):inL (a++b) s=(inL a s||inL b s):=by
 unfold inL
 exact List.any_append
theorem pts_nodup (nm:ByteArray)(kd:Int):∀ (l done:List Pt),ptsI nm kd done l=true->∀ (j:Nat) (h:j<l.length),(done++l.take j).any (dupK l[j])=false
 | [],_,_=>fun j h=>by cases h
 | p::t,done,h=>fun j hj=>by
  simp only [ptsI,Bool.and_eq_true,Bool.not_eq_true'] at h
  cases j with
  | zero=>rw [List.take_zero,List.append_nil];exact h.2.1
  | succ j =>
   have:=pts_nodup nm kd t (done++[p]) h.2.2 j (Nat.lt_of_succ_lt_succ hj)
   rw [List.append_assoc] at this
   exact this
theorem own_keys {f:Fm}(h:famB f=true)(j:Nat)(hj:j<f.f3.length):inL ((f.f3.take j).map (keyF f)) (keyF f f.f3[j])=false:=by
 have nd:=pts_nodup _ _ f.f3 [] (famB_parts h).2 j hj
 rw [List.nil_append,List.any_eq_false] at nd
 unfold inL
 rw [List.any_map,List.any_eq_false]
 intro q hq hk
 refine nd q hq ?_
 have hqm:=List.mem_of_mem_take hq
 have hk':sameK f f.f3[j] f q=true:=by
  rw [← key_same (famB_pt h _ (List.getElem_mem hj)) (famB_pt h q hqm)]
  exact hk
 unfold sameK at hk'
 rw [Bool.and_eq_true,decide_eq_true_eq,eqLL_iff,Y_app,Y_app] at hk'
 unfold dupK
 rw [Bool.and_eq_true,decide_eq_true_eq,eqLL_iff]
 exact ⟨(List.append_cancel_left hk'.1).symm,hk'.2.symm⟩
theorem flat_len:∀ L:List Fm,(∀ f∈L,f.f3.length<=100)->(flatK L).length<=100*L.length
 | [],_=>by simp [flatK]
 | f::t,h=>by
  have h0:=flat_len t (fun g hg=>h g (List.mem_cons_of_mem _ hg))
  have h1:=h f (List.mem_cons_self ..)
  unfold flatK at h0 ⊢
  rw [List.flatMap_cons,List.length_append,List.length_map,List.length_cons]
  omega
theorem flat_succ (l:List Fm)(i:Nat)(h:i<l.length):flatK (l.take (i+1))=flatK (l.take i)++l[i].f3.map (keyF l[i]):=by
 unfold flatK
 rw [List.take_succ_eq_append_getElem h,List.flatMap_append,List.flatMap_cons,List.flatMap_nil,List.append_nil]
def ordB (l:List Fm)(i:Nat):Bool:=decide (i=0)||Op.bytesLess (rd_T29 l ((i-1:Nat):Int)).f0.toList (rd_T29 l (i:Int)).f0.toList
def famsB (l:List Fm):Nat->Nat->Bool
 | 0,_=>true
 | d+1,i=>famB (rd_T29 l (i:Int))&&(ordB l i&&(!((l.take i).any (clashB (rd_T29 l (i:Int))))&&famsB l d (i+1)))
def famsF (l:List Fm):Bool:=decide (l.length<=50)&&famsB l l.length 0
theorem good_succ {l:List Fm}{i:Nat}(h:i<l.length)(hg:∀ g∈l.take i,famB g=true)(hi:famB l[i]=true):∀ g∈l.take (i+1),famB g=true:=fun g hm=>by
 rw [List.take_succ_eq_append_getElem h] at hm
 rcases List.mem_append.1 hm with hm|hm
 ·exact hg g hm
 ·rw [List.mem_singleton.1 hm];exact hi
theorem fams_impl (l:List Fm)(hl:l.length<=1048576)(hF:∀ f∈l,FQ f):Ev (fun k=>impl_GoodFamilies.f k l) (famsF l):=by
 unfold impl_GoodFamilies.f famsF
 refine ev_ite (fun h=>by rw [decide_eq_false (by omega)];exact ev_now _) (fun h => ?_)
 have h50:l.length<=50:=by omega
 rw [decide_eq_true h50,Bool.true_and]
 have inner:∀ (i:Nat) (hi:i<l.length) (R:Bool),(∀ g∈l.take i,famB g=true)->famB l[i]=true->Ev (fun k=>impl_GoodFamilies.l0 k l (flatK (l.take (i+1))) l (l.length:Int) ((i+1:Nat):Int)) R->∀ (d j:Nat),j+d=l[i].f3.length →
   Ev (fun k=>impl_GoodFamilies.l1 k l (flatK (l.take i)++(l[i].f3.take j).map (keyF l[i])) l (l.length:Int) (i:Int) l[i].f3 (l[i].f3.length:Int) (j:Int) l[i].f0 l[i].f1 l[i].f2 l[i].f3) (!((l[i].f3.drop j).any (fun p=>(l.take i).any (fun g=>g.f3.any (fun q=>sameK l[i] p g q))))&&R):=by
  intro i hi R hg hf hR d
  have hq:=hF _ (List.getElem_mem hi)
  have hlen:=hq.len
  induction d with
  | zero =>
   intro j hj
   obtain rfl:j=l[i].f3.length:=by omega
   rw [List.take_length,List.drop_length]
   refine ev_step (fun _=>impl_GoodFamilies.l1.eq_2 ..) (ev_neg (by omega) ?_)
   rw [w64n hi (by omega),← flat_succ l i hi]
   exact hR
  | succ d ih =>
   intro j hj
   have hlt:j<l[i].f3.length:=by omega
   have hm:=List.getElem_mem hlt
   have hpt:=hq.pt _ hm
   have good:=famB_pt hf _ hm
   have key:inL (flatK (l.take i)++(l[i].f3.take j).map (keyF l[i])) (l[i].f0++l[i].f3[j].f0++textOf l[i].f3[j].f1)=(l.take i).any (fun g=>g.f3.any (fun q=>sameK l[i] l[i].f3[j] g q)):=by
    have:=inL_app (flatK (l.take i)) ((l[i].f3.take j).map (keyF l[i])) (keyF l[i] l[i].f3[j])
    rw [inL_flat _ _ _ hg good,own_keys hf j hlt,Bool.or_false] at this
    exact this
   rw [List.drop_eq_getElem_cons hlt,List.any_cons]
   refine ev_step (fun _=>impl_GoodFamilies.l1.eq_2 ..) (ev_pos (by omega) (ev_pos (by omega) (ev_pos (by omega) ?_)))
   rw [rdP _ j hlt]
   refine ev_pos (by have:=hq.nm;have:=hpt.2.2.1;omega) (ev_bind (text_impl _ hpt.1) (ev_pos (by rw [ByteArray.size_append];have:=hq.nm;have:=hpt.2.2.1;have:=textOf_size l[i].f3[j].f1;omega) ?_))
   refine ev_some ?_
   rw [key]
   refine ev_ite (fun h2=>by rw [h2];exact ev_now _) (fun h2 => ?_)
   rw [Bool.eq_false_iff.2 h2,Bool.false_or]
   refine ev_pos (by
    rw [List.length_append,List.length_map,List.length_take]
    have h3:=flat_len (l.take i) (fun f hf=>(famB_parts (hg f hf)).1)
    rw [List.length_take] at h3
    omega) ?_
   rw [w64n hlt (by omega)]
   have next:=ih (j+1) (by omega)
   rw [List.take_succ_eq_append_getElem hlt,List.map_append,← List.append_assoc] at next
   exact next
 have loop:∀ (d i:Nat),i+d=l.length->(∀ g∈l.take i,famB g=true)->Ev (fun k=>impl_GoodFamilies.l0 k l (flatK (l.take i)) l (l.length:Int) (i:Int)) (famsB l d i):=by
  intro d
  induction d with
  | zero =>
   intro i hi hg
   exact ev_step (fun _=>impl_GoodFamilies.l0.eq_2 ..) (ev_neg (by omega) (ev_now _))
  | succ d ih =>
   intro i hi hg
   have hlt:i<l.length:=by omega
   have hq:=hF _ (List.getElem_mem hlt)
   have j1:∀ b:Bool,(b=false->famB l[i]=true)->Ev (fun k=>impl_GoodFamilies.j1 k l (flatK (l.take i)) l (l.length:Int) (i:Int) b l[i].f0 l[i].f1 l[i].f2 l[i].f3) (!b&&(!((l.take i).any (clashB l[i]))&&famsB l d (i+1))):=by
    intro b hb
    refine ev_step (fun _=>impl_GoodFamilies.j1.eq_2 ..) ?_
    cases b with
    | true=>exact ev_pos rfl (ev_now _)
    | false =>
     have hf:=hb rfl
     have next:=inner i hlt (famsB l d (i+1)) hg hf (ih (i+1) (by omega) (good_succ hlt hg hf)) l[i].f3.length 0 (by omega)
     rw [List.take_zero,List.map_nil,List.append_nil,List.drop_zero,any_swap] at next
     exact ev_neg (by decide) next
   simp only [famsB]
   unfold ordB
   refine ev_step (fun _=>impl_GoodFamilies.l0.eq_2 ..) (ev_pos (by omega) (ev_pos (by omega) (ev_pos (by omega) ?_)))
   rw [rdF l i hlt]
   refine ev_bind (fam_impl _ _ _ _ hq) ?_
   refine ev_ite (fun h1 => ?_) (fun h1=>by rw [show famB l[i]=false from Bool.eq_false_iff.2 h1];exact j1 true (fun e=>by cases e))
   rw [show famB l[i]=true from h1,Bool.true_and]
   refine ev_ite (fun h2 => ?_) (fun h2 => ?_)
   ·rw [show wrap64 ((i:Int)-1)=((i-1:Nat):Int) from by rw [w64 (x:=(i:Int)-1) (by omega) (by omega)];omega]
    refine ev_pos (by omega) (ev_pos (by omega) ?_)
    rw [decide_eq_false (show ¬ i=0 by omega),Bool.false_or]
    have:=j1 (!(Op.bytesLess (rd_T29 l ((i-1:Nat):Int)).f0.toList l[i].f0.toList)) (fun _=>h1)
    rw [Bool.not_not] at this
    exact this
   ·rw [decide_eq_true (show i=0 by omega),Bool.true_or,Bool.true_and]
    have:=j1 false (fun _=>h1)
    rw [Bool.not_false,Bool.true_and] at this
    exact this
 have:=loop l.length 0 (by omega) (fun g hg=>by rw [List.take_zero] at hg;cases hg)
 rw [List.take_zero] at this
 exact this
def nearB (f g:Fm)(a b:ByteArray):Bool:=(f.f0++a).toList==(g.f0++b).toList
theorem clash_spec (f g:Fm)(hf:FQ f)(hg:FQ g)(gf:famB f=true)(gg:famB g=true):Ev (fun k=>spec_l3Clash.f k f.f0 f.f1 f.f2 f.f3 g.f0 g.f1 g.f2 g.f3) (clashB f g):=by
 have hn:=hf.nm
 have hn':=hg.nm
 have hlf:=hf.len
 have hlg:=hg.len
 have l3:∀ (i:Nat) (hi:i<f.f3.length) (R:Bool),Ev (fun k=>spec_l3Clash.l2 k f.f3 (f.f3.length:Int) ((i+1:Nat):Int) f.f0 f.f1 f.f2 f.f3 g.f0 g.f1 g.f2 g.f3) R->∀ (d j:Nat),j+d=g.f3.length →
   Ev (fun k=>spec_l3Clash.l3 k f.f3 (f.f3.length:Int) (i:Int) g.f3 (g.f3.length:Int) (j:Int) f.f0 f.f1 f.f2 f.f3 g.f0 g.f1 g.f2 g.f3 f.f3[i].f0 f.f3[i].f1 f.f3[i].f2 f.f3[i].f3 f.f3[i].f4 f.f3[i].f5.f0 f.f3[i].f5.f1 f.f3[i].f5.f2) ((g.f3.drop j).any (fun q=>sameK f f.f3[i] g q)||R):=by
  intro i hi R hR d
  have hp:=hf.pt _ (List.getElem_mem hi)
  induction d with
  | zero =>
   intro j hj
   obtain rfl:j=g.f3.length:=by omega
   rw [List.drop_length]
   refine ev_step (fun _=>spec_l3Clash.l3.eq_2 ..) (ev_neg (by omega) ?_)
   rw [w64n hi (by omega)]
   exact hR
  | succ d ih =>
   intro j hj
   have hlt:j<g.f3.length:=by omega
   have hq:=hg.pt _ (List.getElem_mem hlt)
   rw [List.drop_eq_getElem_cons hlt,List.any_cons]
   refine ev_step (fun _=>spec_l3Clash.l3.eq_2 ..) (ev_pos (by omega) (ev_pos (by omega) (ev_pos (by omega) ?_)))
   rw [rdP g.f3 j hlt,Y_eq,Y_eq,w64n hlt (by omega)]
   refine ev_pos (by have:=hp.2.2.1;omega) (ev_pos (by have:=hq.2.2.1;omega) ?_)
   refine ev_ite (fun h1 => ?_) (fun h1 => ?_)
   ·rw [show sameK f f.f3[i] g g.f3[j]=decide (cmpLL f.f3[i].f1 g.f3[j].f1=0) from by unfold sameK;rw [decide_eq_true h1,Bool.true_and,cmpLL_zero]]
    refine ev_bind (cmpLL_spec _ _ hp.1 hq.1) (ev_ite (fun h2=>by rw [decide_eq_true h2];exact ev_now _) (fun h2 => ?_))
    rw [decide_eq_false h2,Bool.false_or]
    exact ih (j+1) (by omega)
   ·rw [show sameK f f.f3[i] g g.f3[j]=false from by unfold sameK;rw [decide_eq_false h1,Bool.false_and],Bool.false_or]
    exact ih (j+1) (by omega)
 have l2:∀ (d i:Nat),i+d=f.f3.length->Ev (fun k=>spec_l3Clash.l2 k f.f3 (f.f3.length:Int) (i:Int) f.f0 f.f1 f.f2 f.f3 g.f0 g.f1 g.f2 g.f3) ((f.f3.drop i).any (fun p=>g.f3.any (fun q=>sameK f p g q))):=by
  intro d
  induction d with
  | zero =>
   intro i hi
   obtain rfl:i=f.f3.length:=by omega
   rw [List.drop_length]
   exact ev_step (fun _=>spec_l3Clash.l2.eq_2 ..) (ev_neg (by omega) (ev_now _))
  | succ d ih =>
   intro i hi
   have hlt:i<f.f3.length:=by omega
   rw [List.drop_eq_getElem_cons hlt,List.any_cons]
   refine ev_step (fun _=>spec_l3Clash.l2.eq_2 ..) (ev_pos (by omega) (ev_pos (by omega) (ev_pos (by omega) ?_)))
   rw [rdP f.f3 i hlt]
   have:=l3 i hlt _ (ih (i+1) (by omega)) g.f3.length 0 (by omega)
   rw [List.drop_zero] at this
   exact this
 obtain ⟨S,hS⟩:∃ S,S=SUF:=⟨_,rfl⟩
 have hsf:spec_l3Suffixes.f=some S:=by rw [hS];rfl
 have hl:S.length<=100:=by rw [hS];decide
 have hz:∀ a∈S,a.size<=100:=by rw [hS];decide
 have fin:∀ x:Bool,Ev (fun k=>spec_l3Clash.l0 k x S (S.length:Int) (S.length:Int) f.f0 f.f1 f.f2 f.f3 g.f0 g.f1 g.f2 g.f3) (x&&clashB f g):=by
  intro x
  refine ev_step (fun _=>spec_l3Clash.l0.eq_2 ..) (ev_neg (by omega) ?_)
  cases x with
  | true =>
   have:=l2 f.f3.length 0 (by omega)
   rw [List.drop_zero] at this
   exact ev_pos rfl this
  | false=>exact ev_neg (by decide) (ev_now _)
 have l1:∀ (i:Nat) (hi:i<S.length) (R:Bool->Bool),(∀ x,Ev (fun k=>spec_l3Clash.l0 k x S (S.length:Int) ((i+1:Nat):Int) f.f0 f.f1 f.f2 f.f3 g.f0 g.f1 g.f2 g.f3) (R x))->∀ (d j:Nat) (x:Bool),j+d=S.length →
   Ev (fun k=>spec_l3Clash.l1 k x S[i] S (S.length:Int) (i:Int) S (S.length:Int) (j:Int) f.f0 f.f1 f.f2 f.f3 g.f0 g.f1 g.f2 g.f3) (R (x||(S.drop j).any (nearB f g S[i]))):=by
  intro i hi R hR d
  have hi_:=hz _ (List.getElem_mem hi)
  induction d with
  | zero =>
   intro j x hj
   obtain rfl:j=S.length:=by omega
   rw [List.drop_length,List.any_nil,Bool.or_false]
   refine ev_step (fun _=>spec_l3Clash.l1.eq_2 ..) (ev_neg (by omega) ?_)
   rw [w64n hi (by omega)]
   exact hR x
  | succ d ih =>
   intro j x hj
   have hlt:j<S.length:=by omega
   have hj_:=hz _ (List.getElem_mem hlt)
   rw [List.drop_eq_getElem_cons hlt,List.any_cons]
   refine ev_step (fun _=>spec_l3Clash.l1.eq_2 ..) (ev_pos (by omega) (ev_pos (by omega) (ev_pos (by omega) ?_)))
   rw [rdOf_at hlt,w64n hlt (by omega)]
   cases x with
   | true =>
    have:=ih (j+1) true (by omega)
    rw [Bool.true_or] at this ⊢
    exact ev_pos rfl this
   | false =>
    have:=ih (j+1) (nearB f g S[i] S[j]) (by omega)
    rw [Bool.false_or]
    exact ev_neg (by decide) (ev_pos (by omega) (ev_pos (by omega) this))
 have l0:∀ (d i:Nat) (x:Bool),i+d=S.length->Ev (fun k=>spec_l3Clash.l0 k x S (S.length:Int) (i:Int) f.f0 f.f1 f.f2 f.f3 g.f0 g.f1 g.f2 g.f3) ((x||(S.drop i).any (fun a=>S.any (nearB f g a)))&&clashB f g):=by
  intro d
  induction d with
  | zero =>
   intro i x hi
   obtain rfl:i=S.length:=by omega
   rw [List.drop_length,List.any_nil,Bool.or_false]
   exact fin x
  | succ d ih =>
   intro i x hi
   have hlt:i<S.length:=by omega
   rw [List.drop_eq_getElem_cons hlt,List.any_cons,← Bool.or_assoc]
   refine ev_step (fun _=>spec_l3Clash.l0.eq_2 ..) (ev_pos (by omega) (ev_pos (by omega) (ev_pos (by omega) ?_)))
   rw [rdOf_at hlt]
   refine ev_bind (ev_eq hsf) ?_
   have:=l1 i hlt (fun x=>(x||(S.drop (i+1)).any (fun a=>S.any (nearB f g a)))&&clashB f g) (fun x=>ih (i+1) x (by omega)) S.length 0 x (by omega)
   rw [List.drop_zero] at this
   exact this
 unfold spec_l3Clash.f
 refine ev_bind (ev_eq hsf) ?_
 have fl:=l0 S.length 0 false (by omega)
 rw [List.drop_zero,Bool.false_or] at fl
 have near:(S.any (fun a=>S.any (nearB f g a))&&clashB f g)=clashB f g:=by
  cases hc:clashB f g with
  | false=>exact Bool.and_false _
  | true =>
   rw [Bool.and_true]
   unfold clashB at hc
   rw [List.any_eq_true] at hc
   obtain ⟨p,hp,hc⟩:=hc
   rw [List.any_eq_true] at hc
   obtain ⟨q,hq,hc⟩:=hc
   unfold sameK at hc
   rw [Bool.and_eq_true,decide_eq_true_eq] at hc
   obtain ⟨a,ha,ea⟩:=suf_mem (ptI_suf (famB_pt gf p hp))
   obtain ⟨b,hb,eb⟩:=suf_mem (ptI_suf (famB_pt gg q hq))
   rw [List.any_eq_true]
   refine ⟨a,by rw [hS];exact ha,?_⟩
   rw [List.any_eq_true]
   refine ⟨b,by rw [hS];exact hb,?_⟩
   unfold nearB
   have h1:=hc.1
   rw [Y_app,Y_app] at h1
   rw [Y_eq,Y_eq,Y_app,Y_app,ea,eb]
   exact beq_iff_eq.2 h1
 rw [near] at fl
 exact fl
theorem fams_spec (l:List Fm)(hl:l.length<=1048576)(hF:∀ f∈l,FQ f):Ev (fun k=>spec_GoodFamilies.f k l) (famsF l):=by
 unfold spec_GoodFamilies.f famsF
 refine ev_ite (fun h=>by rw [decide_eq_false (by omega)];exact ev_now _) (fun h => ?_)
 have h50:l.length<=50:=by omega
 rw [decide_eq_true h50,Bool.true_and]
 have inner:∀ (i:Nat) (hi:i<l.length) (R:Bool),(∀ g∈l.take i,famB g=true)->famB l[i]=true->Ev (fun k=>spec_GoodFamilies.l0 k l l (l.length:Int) ((i+1:Nat):Int)) R->∀ (d j:Nat),j+d=(l.take i).length →
   Ev (fun k=>spec_GoodFamilies.l1 k l l (l.length:Int) (i:Int) (l.take i) ((l.take i).length:Int) (j:Int) l[i].f0 l[i].f1 l[i].f2 l[i].f3) (!(((l.take i).drop j).any (clashB l[i]))&&R):=by
  intro i hi R hg hf hR d
  have hq:=hF _ (List.getElem_mem hi)
  have hle:(l.take i).length<=50:=by rw [List.length_take];omega
  induction d with
  | zero =>
   intro j hj
   obtain rfl:j=(l.take i).length:=by omega
   rw [List.drop_length]
   refine ev_step (fun _=>spec_GoodFamilies.l1.eq_2 ..) (ev_neg (by omega) ?_)
   rw [w64n hi (by omega)]
   exact hR
  | succ d ih =>
   intro j hj
   have hlt:j<(l.take i).length:=by omega
   have hm:=List.getElem_mem hlt
   rw [List.drop_eq_getElem_cons hlt,List.any_cons]
   refine ev_step (fun _=>spec_GoodFamilies.l1.eq_2 ..) (ev_pos (by omega) (ev_pos (by omega) (ev_pos (by omega) ?_)))
   rw [rdF (l.take i) j hlt]
   refine ev_bind (clash_spec l[i] (l.take i)[j] hq (hF _ (List.mem_of_mem_take hm)) hf (hg _ hm)) (ev_ite (fun h2=>by rw [h2];exact ev_now _) (fun h2 => ?_))
   rw [Bool.eq_false_iff.2 h2,Bool.false_or,w64n hlt (by omega)]
   exact ih (j+1) (by omega)
 have loop:∀ (d i:Nat),i+d=l.length->(∀ g∈l.take i,famB g=true)->Ev (fun k=>spec_GoodFamilies.l0 k l l (l.length:Int) (i:Int)) (famsB l d i):=by
  intro d
  induction d with
  | zero =>
   intro i hi hg
   exact ev_step (fun _=>spec_GoodFamilies.l0.eq_2 ..) (ev_neg (by omega) (ev_now _))
  | succ d ih =>
   intro i hi hg
   have hlt:i<l.length:=by omega
   have hq:=hF _ (List.getElem_mem hlt)
   have j1:∀ b:Bool,(b=false->famB l[i]=true)->Ev (fun k=>spec_GoodFamilies.j1 k l (i:Int) l (l.length:Int) (i:Int) b l[i].f0 l[i].f1 l[i].f2 l[i].f3) (!b&&(!((l.take i).any (clashB l[i]))&&famsB l d (i+1))):=by
    intro b hb
    refine ev_step (fun _=>spec_GoodFamilies.j1.eq_2 ..) ?_
    cases b with
    | true=>exact ev_pos rfl (ev_now _)
    | false =>
     have hf:=hb rfl
     have next:=inner i hlt (famsB l d (i+1)) hg hf (ih (i+1) (by omega) (good_succ hlt hg hf)) (l.take i).length 0 (by omega)
     rw [List.drop_zero] at next
     refine ev_neg (by decide) (ev_pos (by omega) (ev_pos (by omega) (ev_some ?_)))
     rw [Int.toNat_natCast]
     exact next
   simp only [famsB]
   unfold ordB
   refine ev_step (fun _=>spec_GoodFamilies.l0.eq_2 ..) (ev_pos (by omega) (ev_pos (by omega) (ev_pos (by omega) ?_)))
   rw [rdF l i hlt]
   refine ev_bind (fam_spec _ _ _ _ hq) ?_
   refine ev_ite (fun h1 => ?_) (fun h1=>by rw [show famB l[i]=false from Bool.eq_false_iff.2 h1];exact j1 true (fun e=>by cases e))
   rw [show famB l[i]=true from h1,Bool.true_and]
   refine ev_ite (fun h2 => ?_) (fun h2 => ?_)
   ·have hlt':i-1<l.length:=by omega
    have hq':=hF _ (List.getElem_mem hlt')
    rw [show wrap64 ((i:Int)-1)=((i-1:Nat):Int) from by rw [w64 (x:=(i:Int)-1) (by omega) (by omega)];omega]
    refine ev_pos (by omega) (ev_pos (by omega) ?_)
    rw [decide_eq_false (show ¬ i=0 by omega),Bool.false_or,rdF l (i-1) hlt']
    refine ev_bind (cmp_spec _ _ (by have:=hq'.nm;omega) (by have:=hq.nm;omega)) ?_
    have:=j1 (decide (cmpL (Y l[i-1].f0) (Y l[i].f0)>=0)) (fun _=>h1)
    rw [show (!(decide (cmpL (Y l[i-1].f0) (Y l[i].f0)>=0)))=Op.bytesLess l[i-1].f0.toList l[i].f0.toList from by
     rw [Y_eq,Y_eq,less_cmp,← decide_not]
     exact decide_eq_decide.2 ⟨fun h=>by omega,fun h=>by omega⟩] at this
    exact this
   ·rw [decide_eq_true (show i=0 by omega),Bool.true_or,Bool.true_and]
    have:=j1 false (fun _=>h1)
    rw [Bool.not_false,Bool.true_and] at this
    exact this
 have:=loop l.length 0 (by omega) (fun g hg=>by rw [List.take_zero] at hg;cases hg)
 exact this
end Go.Proofs.YtfdbbpnmnogddaaGreatDoor.U
