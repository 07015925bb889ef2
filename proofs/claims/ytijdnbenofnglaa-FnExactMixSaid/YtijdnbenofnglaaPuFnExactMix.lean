/- The plain statement of the law FnExactMix: for all arguments in range it answers true; no further condition. -/
import Derived.Test.YtijdnbenofnglaaPrx6
import Derived.Test.YtijdnbenofnglaaUB
import Derived.Test.YtijdnbenofnglaaUHByteS
import Derived.Test.YtijdnbenofnglaaWFFnExactMix
namespace Go.Proofs.Ytijdnbenofnglaa.PuFnExactMix
open Go.RowKit Go.Proofs.Ytijdnbenofnglaa.Pr Go.Proofs.YtijdnbenofnglaaW.PrintWords Go.Proofs.YtijdnbenofnglaaW.PrintLast Go.Proofs.YtijdnbenofnglaaW.PrintMore Go.Proofs.Ytijdnbenofnglaa.U Go.Proofs.Ytijdnbenofnglaa.WFFnExactMix
set_option linter.unusedVariables false
set_option linter.unusedSimpArgs false

theorem mix_same (k : Nat) : ∀ (x : Int) (xs : List Int) (n i : Int), 0 ≤ x → x < 18446744073709551616 → spec_Mix.l0 k x xs n i = impl_Mix.l0 k x xs n i := by
  induction k with
  | zero => intros; rfl
  | succ k ih =>
    intro x xs n i h0 h1
    simp only [spec_Mix.l0, impl_Mix.l0]
    split
    · split
      · split
        · exact ih _ _ _ _ (bu64 _ _ _).1 (bu64 _ _ _).2
        · rfl
      · rfl
    · rw [Int.tdiv_eq_ediv_of_nonneg h0, wu64]
      congr 2
      omega
theorem mix_ends (xs : List Int) (hn : xs.length ≤ 1048576) (d : Nat) : ∀ (k : Nat) (x : Int) (i : Nat), i + d = xs.length → d < k → ∃ r, impl_Mix.l0 k x xs (xs.length : Int) (i : Int) = some r := by
  induction d with
  | zero =>
    intro k x i h1 h2
    obtain ⟨k, rfl⟩ : ∃ m, k = m + 1 := ⟨k - 1, by omega⟩
    simp only [impl_Mix.l0]
    rw [if_neg (by omega)]
    exact ⟨_, rfl⟩
  | succ d ih =>
    intro k x i h1 h2
    obtain ⟨k, rfl⟩ : ∃ m, k = m + 1 := ⟨k - 1, by omega⟩
    simp only [impl_Mix.l0]
    rw [if_pos (by omega), if_pos (by omega), if_pos (by omega), w64 (by omega) (by omega), show ((i : Int) + 1) = ((i + 1 : Nat) : Int) from by omega]
    exact ih k _ (i + 1) (by omega) (by omega)
theorem pure : Pure := by
  intro l ⟨hm, hw⟩
  refine Ev.rounds (g := fun k => laws_FnExactMix.f k l) ?_
  unfold laws_FnExactMix.f
  refine ev_ite (fun _ => ev_now _) (fun hn => ?_)
  have hl : l.length ≤ 1048576 := by omega
  obtain ⟨r, hr⟩ := mix_ends l hl l.length (l.length + 1) 1469598103 0 (by omega) (by omega)
  have e1 : Ev (fun k => impl_Mix.f k l) r := Ev.of (impl_Mix.mono l) (k := l.length + 1) hr
  have e2 : Ev (fun k => spec_Mix.f k l) r := Ev.congr (fun k => mix_same k _ _ _ _ (by omega) (by omega)) e1
  exact ev_bind (toByteS l hl) (ev_bind e2 (ev_bind (toByteS l hl) (ev_bind e1 (ev_pos rfl (ev_bind (toByteS l hl) (ev_bind (eqByteS l hl) (ev_pos rfl (ev_now _))))))))

end Go.Proofs.Ytijdnbenofnglaa.PuFnExactMix
