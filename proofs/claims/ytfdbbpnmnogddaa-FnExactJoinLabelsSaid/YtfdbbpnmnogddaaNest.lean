/- What a mark may write, told by the blocks' types: rows and boxes of other types stay; each theorem states its own conditions. -/
import Derived.Test.YtfdbbpnmnogddaaWMore
import Derived.Test.YtfdbbpnmnogddaaWKept
import Derived.Test.YtfdbbpnmnogddaaWApart
import Derived.Test.YtfdbbpnmnogddaaCz
namespace Go.Proofs.Ytfdbbpnmnogddaa.Pr
set_option linter.unusedVariables false
open Go.RowKit Go.Proofs.YtfdbbpnmnogddaaW.PrintWords Go.Proofs.YtfdbbpnmnogddaaW.PrintLast Go.Proofs.YtfdbbpnmnogddaaW.PrintMore
section
variable {α : Type} {d : Kd α} {e base : Nat} {W W2 : World} {ok : Nat → Prop} {v : Value} {xs : List α} {ts : List Nat}
end
section
variable {α : Type} {d : Kd α} {e base b lo hi g a : Nat} {w w0 W W2 w' : World} {ok : Nat → Prop} {v : Value} {xs : List α}
theorem rgR_ {h0 : Nat} (ho : d.R e w' W.heap.size ok v xs) (hb : Below W.heap.size W w') (HB : Below w0.heap.size w0 W) (ht : h0 ≤ W.heap.size) : ∃ lo hi,h0 ≤ lo ∧ hi ≤ w'.heap.size ∧ lo ≤ hi ∧ lo = W.heap.size ∧ hi = w'.heap.size ∧ Aside0 (d.R e w' w0.heap.size (fun k => lo ≤ k ∧ k < hi) v xs) :=
  ⟨W.heap.size,w'.heap.size,ht,Nat.le_refl _,hb.size,rfl,rfl,⟨Kd.R_lower (Kd.R_mono (Kd.R_bound ho) (fun _ h => ⟨h.2.1,h.2.2.1⟩)) HB.size⟩⟩
theorem rfS_ (ho : Kd.S d e w' W.heap.size ok v xs) (HB : Below w0.heap.size w0 W) (el : lo = W.heap.size) (eh : hi = w'.heap.size) : Aside0 (Kd.S d e w' w0.heap.size (fun k => lo ≤ k ∧ k < hi) v xs):=by
  subst el;subst eh
  exact ⟨Kd.S_lower (Kd.S_mono (Kd.S_bound ho) (fun _ h => ⟨h.2.1,h.2.2.1⟩)) HB.size⟩
theorem stS_ {c f : Nat} (h : Kd.S d e W base (fun k => lo ≤ k ∧ k < hi) v xs) (hk : Kept W W2 (fun k => c ≤ k ∧ k < f)) (hd : hi ≤ c ∨ f ≤ lo) : Kd.S d e W2 base (fun k => lo ≤ k ∧ k < hi) v xs :=
  Kd.S_step h (fun k ho hl => hk.2 k hl (fun h2 => by have h1 : lo ≤ k ∧ k < hi:=ho;have h3 : c ≤ k ∧ k < f:=h2;omega))
theorem stR_ {c f : Nat} (h : d.R e W base (fun k => lo ≤ k ∧ k < hi) v xs) (hk : Kept W W2 (fun k => c ≤ k ∧ k < f)) (hd : hi ≤ c ∨ f ≤ lo) : d.R e W2 base (fun k => lo ≤ k ∧ k < hi) v xs :=
  Kd.R_step h (fun k ho hl => hk.2 k hl (fun h2 => by have h1 : lo ≤ k ∧ k < hi:=ho;have h3 : c ≤ k ∧ k < f:=h2;omega))
theorem smS_ {c f : Nat} (h : Kd.S d e W base (fun k => lo ≤ k ∧ k < hi) v xs) (h1 : c ≤ lo) (h2 : hi ≤ f) : Kd.S d e W base (fun k => c ≤ k ∧ k < f) v xs:=Kd.S_mono h (fun _ h => ⟨Nat.le_trans h1 h.1,Nat.lt_of_lt_of_le h.2 h2⟩)
theorem stB_ {c f t : Nat} {cs : Array Value} (hb : W.heap[g]? = some (.cells cs t (0,0))) (hk : Kept W W2 (fun k => c ≤ k ∧ k < f)) (hd : g < c ∨ f ≤ g) : Aside0 (W2.heap[g]? = some (.cells cs t (0,0))):=⟨blk_kept hb hk (fun h => by have h3 : c ≤ g ∧ g < f:=h;omega)⟩
theorem bxt_ {h0 : Nat} (hg : g = W.heap.size) (T : Aside0 (h0 ≤ W.heap.size)) : h0 ≤ g:=hg ▸ T.out
end
section
variable {P : Program} {ops : Array Oper} {Q : Exit → Act → World → Prop} {md : Region.Mode} {S : World → Prop} {ds : List Nat}
theorem tk_ {n y fuel : Nat} {oi : Oper} {v : Value} {a a' : Act} {w : World} (i N x : Nat) (h : wpAnyLast P md ops Q S ds fuel (bz n x) a' w)
    (hi : ops[i]? = some oi:=by exact rfl) (hN : oi.dst = some N:=by exact rfl) (hc : takeB md ops ds (bz n y) (bz n x) i = true:=by kernel_rfl)
    (hQ : ∀ c a w,Q (.panic c) (a.put oi.dst v) w → Q (.panic c) a w:=by exact fun _ _ _ h => h)
    (hy : YieldsIf P ops S oi v a:=by exact Or.inl ⟨by rfl,by intro w' hs;(repeat (obtain ⟨_,hs⟩ : _ ∧ _:=hs));go_simp;with_reducible rfl⟩) (hS : S w:=by exact hHeld)
    (ha : a.put (some N) v = a':=by simp only [Act.put,List.setIfInBounds_toArray,List.set_cons_zero,List.set_cons_succ,i64_w,i32_w];rfl) :
    wpAnyLast P md ops Q S ds (fuel + 1) (bz n y) a w:=take_ (bz n x) hi hN hc hQ hy hS ha h
theorem pk_ {n y fuel : Nat} {oi : Oper} {v : Value} {a a' : Act} {w : World} (i N x : Nat) (h : wpAnyLast P md ops Q S ds fuel (bz n x) a' w)
    (hi : ops[i]? = some oi:=by exact rfl) (hN : oi.dst = some N:=by exact rfl) (hc : anyB md ops (bz n y) (bz n x) i = true:=by kernel_rfl)
    (hQ : ∀ c a w,Q (.panic c) (a.put oi.dst v) w → Q (.panic c) a w:=by exact fun _ _ _ h => h) (hy : Yields P ops oi v a:=by exact Or.inl ⟨by rfl,by intro w';go_simp;with_reducible rfl⟩)
    (ha : a.put (some N) v = a':=by simp only [Act.put,List.setIfInBounds_toArray,List.set_cons_zero,List.set_cons_succ,i64_w,i32_w];rfl) :
    wpAnyLast P md ops Q S ds (fuel + 1) (bz n y) a w:=pure_ (bz n x) hi hN hc hQ hy ha h
theorem nm_ {fuel : Nat} {l : Array Bool} {a a' : Act} {w : World} {N : Option Tmp} {v : Value} (h : wpAnyLast P md ops Q S ds fuel l a' w)
    (ha : a.put N v = a':=by simp only [Act.put,List.setIfInBounds_toArray,List.set_cons_zero,List.set_cons_succ,i64_w,i32_w];rfl) : wpAnyLast P md ops Q S ds fuel l (a.put N v) w:=ha ▸ h
end
end Go.Proofs.Ytfdbbpnmnogddaa.Pr
