/- The plain statement of the law FnExactSum32: for all arguments in range it answers true; no further condition. -/
import Derived.Test.YtijdnbenofnglaaPrx14
import Derived.Test.YtijdnbenofnglaaUB
import Derived.Test.YtijdnbenofnglaaUHByteS
import Derived.Test.YtijdnbenofnglaaWFFnExactSum32
namespace Go.Proofs.Ytijdnbenofnglaa.PuFnExactSum32
open Go.RowKit Go.Proofs.Ytijdnbenofnglaa.Pr Go.Proofs.YtijdnbenofnglaaW.PrintWords Go.Proofs.YtijdnbenofnglaaW.PrintLast Go.Proofs.YtijdnbenofnglaaW.PrintMore Go.Proofs.Ytijdnbenofnglaa.U Go.Proofs.Ytijdnbenofnglaa.WFFnExactSum32
set_option linter.unusedVariables false
set_option linter.unusedSimpArgs false

theorem and1_u32 {x : Int} (h0 : 0 ≤ x) (h1 : x < 4294967296) : bits .and .u32 x 1 = x % 2 := by
  have e : (BitVec.ofInt IntKind.u32.bits x &&& BitVec.ofInt IntKind.u32.bits 1).toNat = (x % ((2 ^ 32 : Nat) : Int)).toNat % 2 := by
    rw [BitVec.toNat_and, show (BitVec.ofInt IntKind.u32.bits 1).toNat = 1 from by decide, Nat.and_one_is_mod, BitVec.toNat_ofInt]
    rfl
  simp only [bits, e]
  rw [IntKind.wrap_u32]
  omega
theorem sum_same (k : Nat) : (∀ (x : Int) (xs : List Int) (n i : Int), 0 ≤ x → x < 4294967296 → spec_Sum32.l0 k x xs n i = impl_Sum32.l0 k x xs n i) ∧
    (∀ (x j : Int) (xs : List Int) (n i : Int), 0 ≤ x → x < 4294967296 → spec_Sum32.l1 k x j xs n i = impl_Sum32.l1 k x xs n i j) := by
  induction k with
  | zero => exact ⟨fun _ _ _ _ _ _ => rfl, fun _ _ _ _ _ _ _ => rfl⟩
  | succ k ih =>
    constructor
    · intro x xs n i h0 h1
      simp only [spec_Sum32.l0, impl_Sum32.l0]
      split
      · split
        · split
          · exact ih.2 _ _ _ _ _ (bu32 _ _ _).1 (bu32 _ _ _).2
          · rfl
        · rfl
      · rfl
    · intro x j xs n i h0 h1
      simp only [spec_Sum32.l1, impl_Sum32.l1]
      rw [and1_u32 h0 h1, Int.tmod_eq_emod_of_nonneg h0, Int.tdiv_eq_ediv_of_nonneg h0, show x / 2 % 4294967296 = x / 2 from by omega]
      split
      · split
        · exact ih.2 _ _ _ _ _ (bu32 _ _ _).1 (bu32 _ _ _).2
        · exact ih.2 _ _ _ _ _ (by omega) (by omega)
      · exact ih.1 _ _ _ _ h0 h1
theorem sum_ends (xs : List Int) (hn : xs.length ≤ 1048576) (d : Nat) : ∀ (k : Nat) (x : Int) (i : Nat), i + d = xs.length → 10 * d < k → ∃ r, impl_Sum32.l0 k x xs (xs.length : Int) (i : Int) = some r := by
  induction d with
  | zero =>
    intro k x i h1 h2
    obtain ⟨k, rfl⟩ : ∃ m, k = m + 1 := ⟨k - 1, by omega⟩
    simp only [impl_Sum32.l0]
    rw [if_neg (by omega)]
    exact ⟨_, rfl⟩
  | succ d ih =>
    intro k x i h1 h2
    obtain ⟨k, rfl⟩ : ∃ m, k = m + 1 := ⟨k - 1, by omega⟩
    have inner : ∀ (e : Nat) (k : Nat) (x : Int) (j : Nat), j + e = 8 → 10 * d + e + 1 < k → ∃ r, impl_Sum32.l1 k x xs (xs.length : Int) (i : Int) (j : Int) = some r := by
      intro e
      induction e with
      | zero =>
        intro k x j h3 h4
        obtain ⟨k, rfl⟩ : ∃ m, k = m + 1 := ⟨k - 1, by omega⟩
        simp only [impl_Sum32.l1]
        rw [if_neg (by omega), w64 (by omega) (by omega), show ((i : Int) + 1) = ((i + 1 : Nat) : Int) from by omega]
        exact ih k _ (i + 1) (by omega) (by omega)
      | succ e ihe =>
        intro k x j h3 h4
        obtain ⟨k, rfl⟩ : ∃ m, k = m + 1 := ⟨k - 1, by omega⟩
        simp only [impl_Sum32.l1]
        rw [if_pos (by omega), w64 (by omega) (by omega), show ((j : Int) + 1) = ((j + 1 : Nat) : Int) from by omega]
        split
        · exact ihe k _ (j + 1) (by omega) (by omega)
        · exact ihe k _ (j + 1) (by omega) (by omega)
    simp only [impl_Sum32.l0]
    rw [if_pos (by omega), if_pos (by omega), if_pos (by omega)]
    exact inner 8 k _ 0 (by omega) (by omega)
theorem pure : Pure := by
  intro l ⟨hm, hw⟩
  refine Ev.rounds (g := fun k => laws_FnExactSum32.f k l) ?_
  unfold laws_FnExactSum32.f
  refine ev_ite (fun _ => ev_now _) (fun hn => ?_)
  have hl : l.length ≤ 1048576 := by omega
  obtain ⟨r, hr⟩ := sum_ends l hl l.length (10 * l.length + 1) 4294967295 0 (by omega) (by omega)
  have e1 : Ev (fun k => impl_Sum32.f k l) r := Ev.of (impl_Sum32.mono l) (k := 10 * l.length + 1) hr
  have e2 : Ev (fun k => spec_Sum32.f k l) r := Ev.congr (fun k => (sum_same k).1 _ _ _ _ (by omega) (by omega)) e1
  exact ev_bind (toByteS l hl) (ev_bind e2 (ev_bind (toByteS l hl) (ev_bind e1 (ev_pos rfl (ev_bind (toByteS l hl) (ev_bind (eqByteS l hl) (ev_pos rfl (ev_now _))))))))

end Go.Proofs.Ytijdnbenofnglaa.PuFnExactSum32
