/- Plain lemmas over the printed functions, for the laws' plain statements; each theorem states its own conditions. -/
import Derived.Test.YthgeohdpjedhnaaPrxg0dd73n1
import Derived.Test.YthgeohdpjedhnaaPrxg5570bn5
import Derived.Test.YthgeohdpjedhnaaUB
namespace Go.Proofs.Ythgeohdpjedhnaa.U
open Go.RowKit Go.Proofs.Ythgeohdpjedhnaa.Pr Go.Proofs.YthgeohdpjedhnaaW.PrintWords Go.Proofs.YthgeohdpjedhnaaW.PrintLast Go.Proofs.YthgeohdpjedhnaaW.PrintMore
set_option linter.unusedVariables false
set_option linter.unusedSimpArgs false

def sm84 (x : S84) : Prop := x.f0.size ≤ 1048576 ∧ x.f1.size ≤ 1048576
def cv84 (x : S84) : S86 := ⟨x.f0, x.f1⟩
theorem toLabel (x : S84) (hx : sm84 x) : Ev (fun _ => laws_toLabel.f x.f0 x.f1) (x.f0, x.f1) := by
  obtain ⟨h0, h1⟩ := hx
  unfold laws_toLabel.f
  exact ev_now _
theorem eqLabel (x : S86) : Ev (fun _ => laws_eqLabel.f x.f0 x.f1 x.f0 x.f1) true := ev_eq (by simp [laws_eqLabel.f])
def sw84 (x : S84) : Prop := (x.f0.size ≤ maxLen) ∧ (x.f1.size ≤ maxLen)
theorem szLabel (x : S84) (c : Int) (h0 : 0 ≤ c) (h1 : c ≤ 1048576) (hw : sw84 x) : ∃ r, Ev (fun _ => laws_szLabel.f x.f0 x.f1 c) r ∧ r ≤ c ∧ (0 ≤ r → sm84 x) := by
  obtain ⟨w0, w1⟩ := hw
  unfold laws_szLabel.f
  simp only [maxLen] at w0
  rw [w64 (x := c - (x.f0.size : Int)) (by omega) (by omega)]
  by_cases n0 : c - (x.f0.size : Int) < 0
  · exact ⟨-1, ev_pos n0 (ev_now _), by omega, fun h => absurd h (by decide)⟩
  · skip
    simp only [maxLen] at w1
    rw [w64 (x := (c - (x.f0.size : Int)) - (x.f1.size : Int)) (by omega) (by omega)]
    by_cases n1 : (c - (x.f0.size : Int)) - (x.f1.size : Int) < 0
    · exact ⟨-1, ev_neg n0 (ev_pos n1 (ev_now _)), by omega, fun h => absurd h (by decide)⟩
    · skip
      exact ⟨_, ev_neg n0 (ev_neg n1 (ev_now _)), by omega, fun _ => ⟨by omega, by omega⟩⟩

end Go.Proofs.Ythgeohdpjedhnaa.U
