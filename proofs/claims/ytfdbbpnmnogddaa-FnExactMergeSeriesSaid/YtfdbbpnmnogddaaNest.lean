/- What a mark may write, told by the blocks' types: rows and boxes of other types stay; each theorem states its own conditions. -/
import Derived.Test.YtfdbbpnmnogddaaWMore
import Derived.Test.YtfdbbpnmnogddaaWKept
import Derived.Test.YtfdbbpnmnogddaaWApart
import Derived.Test.YtfdbbpnmnogddaaWN
import Derived.Test.YtfdbbpnmnogddaaWShare
import Derived.Test.YtfdbbpnmnogddaaCz
namespace Go.Proofs.Ytfdbbpnmnogddaa.Pr
set_option linter.unusedVariables false
open Go.RowKit Go.Proofs.YtfdbbpnmnogddaaW.PrintWords Go.Proofs.YtfdbbpnmnogddaaW.PrintLast Go.Proofs.YtfdbbpnmnogddaaW.PrintMore
section
variable {α : Type} {d : Kd α} {e base : Nat} {W W2 : World} {ok : Nat → Prop} {v : Value} {xs : List α} {ts : List Nat}
end
section
variable {α : Type} {d : Kd α} {e base b lo hi g a : Nat} {w w0 W W2 w' : World} {ok : Nat → Prop} {v : Value} {xs : List α}
theorem rgS_ {h0 : Nat} (ho : Kd.S d e w' W.heap.size ok v xs) (hb : Below W.heap.size W w') (HB : Below w0.heap.size w0 W) (ht : h0 ≤ W.heap.size) : ∃ lo hi,h0 ≤ lo ∧ hi ≤ w'.heap.size ∧ lo ≤ hi ∧ lo = W.heap.size ∧ hi = w'.heap.size ∧ Aside0 (Kd.S d e w' w0.heap.size (fun k => lo ≤ k ∧ k < hi) v xs) :=
  ⟨W.heap.size,w'.heap.size,ht,Nat.le_refl _,hb.size,rfl,rfl,⟨Kd.S_lower (Kd.S_mono (Kd.S_bound ho) (fun _ h => ⟨h.2.1,h.2.2.1⟩)) HB.size⟩⟩
theorem rgN_ {h0 : Nat} (ho : Kd.N d e w' W.heap.size (fun k => W.heap.size ≤ k) v xs) (hb : Below W.heap.size W w') (HB : Below w0.heap.size w0 W) (ht : h0 ≤ W.heap.size) : ∃ lo hi,h0 ≤ lo ∧ hi ≤ w'.heap.size ∧ lo ≤ hi ∧ lo = W.heap.size ∧ hi = w'.heap.size ∧ Aside0 (Kd.N d e w' w0.heap.size (fun k => lo ≤ k ∧ k < hi) v xs):=by
  refine ⟨W.heap.size,w'.heap.size,ht,Nat.le_refl _,hb.size,rfl,rfl,⟨Kd.N_lower ?_ HB.size⟩⟩
  obtain ⟨h1,rows,hl,hR,hf⟩:=ho
  exact ⟨fun k hk => ⟨h1 k hk,Kd.R_lt hR k hk⟩,rows,hl,hR,fun j x c hx hc => Kd.FK_mono (Kd.FK_bound (hf j x c hx hc)) (fun k hk => ⟨⟨hk.1.1,hk.2⟩,hk.1.2⟩)⟩
theorem stN_ {c f : Nat} (h : Kd.N d e W base (fun k => lo ≤ k ∧ k < hi) v xs) (hk : Kept W W2 (fun k => c ≤ k ∧ k < f)) (hd : hi ≤ c ∨ f ≤ lo) : Kd.N d e W2 base (fun k => lo ≤ k ∧ k < hi) v xs:=by
  obtain ⟨h1,rows,hl,hR,hf⟩:=h
  have hk2 : ∀ k,lo ≤ k → k < hi → k < W.heap.size → W2.heap[k]? = W.heap[k]?:=fun k h2 h3 hlt => hk.2 k hlt (fun h4 => by have h5 : c ≤ k ∧ k < f:=h4;omega)
  exact ⟨h1,rows,hl,Kd.R_step hR (fun k ho hlt => by have h2:=h1 k (Eq.symm ho);exact hk2 k h2.1 h2.2 hlt),fun j x cc hx hc => Kd.FK_step (hf j x cc hx hc) (fun k ho hlt => hk2 k ho.1.1 ho.1.2 hlt)⟩
theorem stS_ {c f : Nat} (h : Kd.S d e W base (fun k => lo ≤ k ∧ k < hi) v xs) (hk : Kept W W2 (fun k => c ≤ k ∧ k < f)) (hd : hi ≤ c ∨ f ≤ lo) : Kd.S d e W2 base (fun k => lo ≤ k ∧ k < hi) v xs :=
  Kd.S_step h (fun k ho hl => hk.2 k hl (fun h2 => by have h1 : lo ≤ k ∧ k < hi:=ho;have h3 : c ≤ k ∧ k < f:=h2;omega))
end
section
variable {P : Program} {ops : Array Oper} {Q : Exit → Act → World → Prop} {md : Region.Mode} {S : World → Prop} {ds : List Nat}
end
end Go.Proofs.Ytfdbbpnmnogddaa.Pr
