/- Plain lemmas over the printed functions, for the laws' plain statements; each theorem states its own conditions. -/
import Derived.Test.YtijdnbenofnglaaPrx10
import Derived.Test.YtijdnbenofnglaaUB
namespace Go.Proofs.Ytijdnbenofnglaa.U
open Go.RowKit Go.Proofs.Ytijdnbenofnglaa.Pr Go.Proofs.YtijdnbenofnglaaW.PrintWords Go.Proofs.YtijdnbenofnglaaW.PrintLast Go.Proofs.YtijdnbenofnglaaW.PrintMore
set_option linter.unusedVariables false
set_option linter.unusedSimpArgs false

/-- A number's bytes, seven bits each, the lowest first. -/
def pv : Nat → Int → List Int
  | 0, x => [x]
  | d + 1, x => if 128 ≤ x then (x % 128 + 128) :: pv d (x / 128) else [x]
theorem pv_len (d : Nat) : ∀ x, 1 ≤ (pv d x).length ∧ (pv d x).length ≤ d + 1 := by
  induction d with
  | zero => intro x; simp [pv]
  | succ d ih =>
    intro x
    simp only [pv]
    split
    · have := ih (x / 128)
      simp only [List.length_cons]
      omega
    · simp
theorem pv_byte (d : Nat) : ∀ x, 0 ≤ x → x < 128 ^ (d + 1) → ∀ y ∈ pv d x, 0 ≤ y ∧ y < 256 := by
  induction d with
  | zero => intro x h0 h1 y hy; simp [pv] at hy; simp at h1; omega
  | succ d ih =>
    intro x h0 h1 y hy
    rw [Int.pow_succ] at h1
    simp only [pv] at hy
    split at hy
    · rcases List.mem_cons.1 hy with rfl | hy
      · omega
      · generalize (128 : Int) ^ (d + 1) = p at *
        exact ih (x / 128) (by omega) (by omega) y hy
    · simp at hy
      omega
theorem or128 {x : Int} (h0 : 0 ≤ x) : bits .or .u8 (x % 256) 128 = x % 128 + 128 := by
  have key : ∀ y : Fin 256, bits .or .u8 ((y.val : Nat) : Int) 128 = ((y.val % 128 + 128 : Nat) : Int) := by decide +kernel
  have h := key ⟨(x % 256).toNat, by omega⟩
  simp only at h
  rw [show (((x % 256).toNat : Nat) : Int) = x % 256 from by omega] at h
  rw [h]
  omega
theorem impl_pv (d : Nat) : ∀ (k : Nat) (x : Int) (acc : List Int), 0 ≤ x → x < 128 ^ (d + 1) → d < k → acc.length + d < 140737488355328 → impl_PutVar.l0 k x acc = some (acc ++ pv d x) := by
  induction d with
  | zero =>
    intro k x acc h0 h1 h2 h3
    obtain ⟨k, rfl⟩ : ∃ m, k = m + 1 := ⟨k - 1, by omega⟩
    simp at h1
    simp only [impl_PutVar.l0, pv]
    rw [if_neg (by omega), if_pos (by omega), show x % 256 = x from by omega]
  | succ d ih =>
    intro k x acc h0 h1 h2 h3
    obtain ⟨k, rfl⟩ : ∃ m, k = m + 1 := ⟨k - 1, by omega⟩
    rw [Int.pow_succ] at h1
    simp only [impl_PutVar.l0, pv]
    by_cases h : 128 ≤ x
    · rw [if_pos h, if_pos (by omega), if_pos h, or128 h0, ih k (x / 128) _ (by omega) (by generalize (128 : Int) ^ (d + 1) = p at *; omega) (by omega) (by simp; omega)]
      simp
    · rw [if_neg h, if_pos (by omega), if_neg h, show x % 256 = x from by omega]
theorem impl_put (n : Int) (k : Nat) (hk : 9 < k) : impl_PutVar.f k n = some (pv 9 (n % 18446744073709551616)) := by
  unfold impl_PutVar.f
  rw [wu64, impl_pv 9 k _ _ (by omega) (Int.lt_trans (b := 18446744073709551616) (by omega) (by decide)) hk (by simp)]
  rfl

end Go.Proofs.Ytijdnbenofnglaa.U
