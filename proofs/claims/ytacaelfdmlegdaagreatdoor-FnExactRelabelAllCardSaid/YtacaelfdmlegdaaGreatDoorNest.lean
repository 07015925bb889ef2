/- What a mark may write, told by the blocks' types: rows and boxes of other types stay; each theorem states its own conditions. -/
import Derived.Test.YtacaelfdmlegdaaGreatDoorWMore
import Derived.Test.YtacaelfdmlegdaaGreatDoorWKept
import Derived.Test.YtacaelfdmlegdaaGreatDoorWApart
import Derived.Test.YtacaelfdmlegdaaGreatDoorCz
namespace Go.Proofs.YtacaelfdmlegdaaGreatDoor.Pr
set_option linter.unusedVariables false
open Go.RowKit Go.Proofs.YtacaelfdmlegdaaGreatDoorW.PrintWords Go.Proofs.YtacaelfdmlegdaaGreatDoorW.PrintLast Go.Proofs.YtacaelfdmlegdaaGreatDoorW.PrintMore
section
variable {α : Type} {d : Kd α} {e base : Nat} {W W2 : World} {ok : Nat → Prop} {v : Value} {xs : List α} {ts : List Nat}
end
section
variable {α : Type} {d : Kd α} {e base b lo hi g a : Nat} {w w0 W W2 w' : World} {ok : Nat → Prop} {v : Value} {xs : List α}
theorem rgS_ {h0 : Nat} (ho : Kd.S d e w' W.heap.size ok v xs) (hb : Below W.heap.size W w') (HB : Below w0.heap.size w0 W) (ht : h0 ≤ W.heap.size) : ∃ lo hi,h0 ≤ lo ∧ hi ≤ w'.heap.size ∧ lo ≤ hi ∧ lo = W.heap.size ∧ hi = w'.heap.size ∧ Aside0 (Kd.S d e w' w0.heap.size (fun k => lo ≤ k ∧ k < hi) v xs) :=
  ⟨W.heap.size,w'.heap.size,ht,Nat.le_refl _,hb.size,rfl,rfl,⟨Kd.S_lower (Kd.S_mono (Kd.S_bound ho) (fun _ h => ⟨h.2.1,h.2.2.1⟩)) HB.size⟩⟩
theorem rgR_ {h0 : Nat} (ho : d.R e w' W.heap.size ok v xs) (hb : Below W.heap.size W w') (HB : Below w0.heap.size w0 W) (ht : h0 ≤ W.heap.size) : ∃ lo hi,h0 ≤ lo ∧ hi ≤ w'.heap.size ∧ lo ≤ hi ∧ lo = W.heap.size ∧ hi = w'.heap.size ∧ Aside0 (d.R e w' w0.heap.size (fun k => lo ≤ k ∧ k < hi) v xs) :=
  ⟨W.heap.size,w'.heap.size,ht,Nat.le_refl _,hb.size,rfl,rfl,⟨Kd.R_lower (Kd.R_mono (Kd.R_bound ho) (fun _ h => ⟨h.2.1,h.2.2.1⟩)) HB.size⟩⟩
theorem stS_ {c f : Nat} (h : Kd.S d e W base (fun k => lo ≤ k ∧ k < hi) v xs) (hk : Kept W W2 (fun k => c ≤ k ∧ k < f)) (hd : hi ≤ c ∨ f ≤ lo) : Kd.S d e W2 base (fun k => lo ≤ k ∧ k < hi) v xs :=
  Kd.S_step h (fun k ho hl => hk.2 k hl (fun h2 => by have h1 : lo ≤ k ∧ k < hi:=ho;have h3 : c ≤ k ∧ k < f:=h2;omega))
theorem stR_ {c f : Nat} (h : d.R e W base (fun k => lo ≤ k ∧ k < hi) v xs) (hk : Kept W W2 (fun k => c ≤ k ∧ k < f)) (hd : hi ≤ c ∨ f ≤ lo) : d.R e W2 base (fun k => lo ≤ k ∧ k < hi) v xs :=
  Kd.R_step h (fun k ho hl => hk.2 k hl (fun h2 => by have h1 : lo ≤ k ∧ k < hi:=ho;have h3 : c ≤ k ∧ k < f:=h2;omega))
end
theorem drawn_below {w w' : World} (h : Drawn0 w w') : Below w.heap.size w w':=by
  obtain ⟨n,rfl⟩:=h
  exact pw_below_drewN (Below.refl _ _) n
section
variable {P : Program} {ops : Array Oper} {Q : Exit → Act → World → Prop} {md : Region.Mode} {S : World → Prop} {ds : List Nat}
end
end Go.Proofs.YtacaelfdmlegdaaGreatDoor.Pr
