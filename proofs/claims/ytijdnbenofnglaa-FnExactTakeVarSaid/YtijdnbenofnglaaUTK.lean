/- Plain lemmas over the printed functions, for the laws' plain statements; each theorem states its own conditions. -/
import Derived.Test.YtijdnbenofnglaaPrx11
import Derived.Test.YtijdnbenofnglaaUB
namespace Go.Proofs.Ytijdnbenofnglaa.U
open Go.RowKit Go.Proofs.Ytijdnbenofnglaa.Pr Go.Proofs.YtijdnbenofnglaaW.PrintWords Go.Proofs.YtijdnbenofnglaaW.PrintLast Go.Proofs.YtijdnbenofnglaaW.PrintMore
set_option linter.unusedVariables false
set_option linter.unusedSimpArgs false

/-- What TakeVar tells from round i on, d rounds being left. -/
def tk (l : List Int) (a : Int) : Nat → Int → Nat → Int × Int
  | 0, _, _ => (0, -1)
  | d + 1, v, i =>
    if a + i < (l.length : Int) then
      if i = 9 ∧ rd l (a + i) > 1 then (0, -1)
      else if rd l (a + i) < 128 then (if rd l (a + i) = 0 ∧ i > 0 then (0, -1) else (wrap64 (v + rd l (a + i) * 2 ^ (7 * i)), a + i + 1))
      else tk l a d (v + rd l (a + i) % 128 * 2 ^ (7 * i)) (i + 1)
    else (0, -1)
theorem and127 {x : Int} (h0 : 0 ≤ x) (h1 : x < 256) : bits .and .u8 x 127 = x % 128 := bits_mask .u8 8 (by decide) wraps_u8 7 (by decide) x h0 h1
theorem wraps_u64 (n : Int) (h₀ : 0 ≤ n) (h₁ : n < 2 ^ 64) : IntKind.u64.wrap n = n := by rw [wu64]; omega
/-- A byte's seven bits, i rounds on: where they lie, and that they fit. -/
theorem fits7 {c : Int} {i : Nat} (hc0 : 0 ≤ c) (hc : c < 256) (hi : i < 9 ∨ i = 9 ∧ c ≤ 1) : 0 ≤ c % 128 * 2 ^ (7 * i) ∧ c % 128 * 2 ^ (7 * i) + 2 ^ (7 * i) ≤ 18446744073709551616 := by
  have hp : (0 : Int) < 2 ^ (7 * i) := Int.pow_pos (by decide)
  refine ⟨Int.mul_nonneg (by omega) (Int.le_of_lt hp), ?_⟩
  rcases hi with hi | ⟨rfl, h1⟩
  · have h1 : (2 : Int) ^ (7 * i) * 128 = 2 ^ (7 * i + 7) := by rw [Int.pow_add]; rfl
    have h2 : (2 : Int) ^ (7 * i + 7) ≤ 2 ^ 64 := by have := Nat.pow_le_pow_right (n := 2) (by decide) (show 7 * i + 7 ≤ 64 from by omega); exact_mod_cast this
    have h3 : c % 128 * 2 ^ (7 * i) ≤ 127 * 2 ^ (7 * i) := Int.mul_le_mul_of_nonneg_right (by omega) (Int.le_of_lt hp)
    generalize (2 : Int) ^ (7 * i) = p at *
    generalize (2 : Int) ^ (7 * i + 7) = q at *
    have h4 : (2 : Int) ^ 64 = 18446744073709551616 := by decide
    omega
  · have h4 : (2 : Int) ^ (7 * 9) = 9223372036854775808 := by decide
    rw [h4]
    omega
theorem shl7 {c : Int} {i : Nat} (hc0 : 0 ≤ c) (hc : c < 256) (hi : i < 9 ∨ i = 9 ∧ c ≤ 1) : shl .u64 (c % 128) (7 * (i : Int)) = c % 128 * 2 ^ (7 * i) := by
  obtain ⟨h1, h2⟩ := fits7 hc0 hc hi
  have hp : (0 : Int) < 2 ^ (7 * i) := Int.pow_pos (by decide)
  have e : min (7 * (i : Int)).toNat IntKind.u64.bits = 7 * i := by show min _ 64 = _; omega
  unfold shl
  rw [e, wu64]
  omega
theorem or7 {v c : Int} {i : Nat} (hc0 : 0 ≤ c) (hc : c < 256) (hi : i < 9 ∨ i = 9 ∧ c ≤ 1) (hv0 : 0 ≤ v) (hv : v < 2 ^ (7 * i)) : bits .or .u64 v (c % 128 * 2 ^ (7 * i)) = v + c % 128 * 2 ^ (7 * i) := by
  obtain ⟨h1, h2⟩ := fits7 hc0 hc hi
  have hp : (0 : Int) < 2 ^ (7 * i) := Int.pow_pos (by decide)
  have h4 : (2 : Int) ^ 64 = 18446744073709551616 := by decide
  rw [or_comm_, bits_join .u64 64 (by decide) wraps_u64 (7 * i) _ _ h1 (Int.mul_emod_left _ _) (by omega) hv0 hv (by omega), Int.add_comm]
theorem next7 {v c : Int} {i : Nat} (hc0 : 0 ≤ c) (hv0 : 0 ≤ v) (hv : v < 2 ^ (7 * i)) : 0 ≤ v + c % 128 * 2 ^ (7 * i) ∧ v + c % 128 * 2 ^ (7 * i) < 2 ^ (7 * (i + 1)) := by
  have hp : (0 : Int) < 2 ^ (7 * i) := Int.pow_pos (by decide)
  have h1 : (2 : Int) ^ (7 * (i + 1)) = 2 ^ (7 * i) * 128 := by rw [show 7 * (i + 1) = 7 * i + 7 from by omega, Int.pow_add]; rfl
  have h3 : c % 128 * 2 ^ (7 * i) ≤ 127 * 2 ^ (7 * i) := Int.mul_le_mul_of_nonneg_right (by omega) (Int.le_of_lt hp)
  have h0 : 0 ≤ c % 128 * 2 ^ (7 * i) := Int.mul_nonneg (by omega) (Int.le_of_lt hp)
  rw [h1]
  generalize (2 : Int) ^ (7 * i) = p at *
  omega
theorem byte_at {l : List Int} (hb : ∀ x ∈ l, 0 ≤ x ∧ x < 256) (j : Int) : 0 ≤ rd l j ∧ rd l j < 256 := by
  unfold rd
  rw [List.getD_eq_getElem?_getD]
  cases h : l[j.toNat]? with
  | none => simp
  | some x => exact hb x (List.mem_of_getElem? h)
theorem impl_tk (l : List Int) (a : Int) (hb : ∀ x ∈ l, 0 ≤ x ∧ x < 256) (hl : l.length ≤ 9000000000000000000) (h0 : 0 ≤ a) (h1 : a ≤ 9000000000000000000) (d : Nat) :
    ∀ (k : Nat) (v : Int) (i : Nat), i + d = 10 → 3 * d + 1 < k → 0 ≤ v → v < 2 ^ (7 * i) → impl_TakeVar.l0 k l a v (i : Int) = some (tk l a d v i) := by
  induction d with
  | zero =>
    intro k v i hi hk hv0 hv
    obtain ⟨k, rfl⟩ : ∃ m, k = m + 2 := ⟨k - 2, by omega⟩
    simp only [impl_TakeVar.l0, tk]
    rw [if_neg (by omega)]
    simp [impl_TakeVar.j2]
  | succ d ih =>
    intro k v i hi hk hv0 hv
    obtain ⟨k, rfl⟩ : ∃ m, k = m + 3 := ⟨k - 3, by omega⟩
    simp only [impl_TakeVar.l0, tk]
    rw [if_pos (by omega), w64 (by omega) (by omega)]
    simp only [impl_TakeVar.j2]
    rw [w64 (by omega) (by omega)]
    by_cases hin : a + (i : Int) < (l.length : Int)
    · have hc := byte_at hb (a + (i : Int))
      rw [if_pos (decide_eq_true hin), if_pos (by omega), if_pos hin, if_pos hin]
      generalize rd l (a + (i : Int)) = c at *
      have hj3 : ∀ b : Bool, (i = 9 ∧ c > 1 → b = true) → (¬ (i = 9 ∧ c > 1) → b = false) → impl_TakeVar.j3 (k + 1) l a v (i : Int) c b =
          some (if i = 9 ∧ c > 1 then (0, -1) else if c < 128 then (if c = 0 ∧ i > 0 then (0, -1) else (wrap64 (v + c * 2 ^ (7 * i)), a + i + 1)) else tk l a d (v + c % 128 * 2 ^ (7 * i)) (i + 1)) := by
        intro b hb1 hb2
        simp only [impl_TakeVar.j3]
        by_cases hs : i = 9 ∧ c > 1
        · rw [if_pos (hb1 hs), if_pos hs]
        · have hs' : i < 9 ∨ i = 9 ∧ c ≤ 1 := by omega
          rw [if_neg (by rw [hb2 hs]; decide), if_neg hs, w64 (x := 7 * (i : Int)) (by omega) (by omega), if_pos (by omega), and127 hc.1 hc.2, wu64, show c % 128 % 18446744073709551616 = c % 128 from by omega, shl7 hc.1 hc.2 hs', or7 hc.1 hc.2 hs' hv0 hv,
            w64 (x := a + (i : Int)) (by omega) (by omega), w64 (x := a + (i : Int) + 1) (by omega) (by omega), w64 (x := (i : Int) + 1) (by omega) (by omega)]
          by_cases hlt : c < 128
          · rw [if_pos hlt, if_pos hlt, show c % 128 = c from by omega]
            by_cases hz : c = 0
            · rw [if_pos hz]
              by_cases hi0 : i > 0
              · rw [if_pos (by omega), if_pos ⟨hz, hi0⟩]
              · rw [if_neg (by omega), if_neg (fun h => hi0 h.2)]
            · rw [if_neg hz, if_neg (fun h => hz h.1)]
          · rw [if_neg hlt, if_neg hlt, show ((i : Int) + 1) = ((i + 1 : Nat) : Int) from by omega]
            exact ih k _ (i + 1) (by omega) (by omega) (next7 hc.1 hv0 hv).1 (next7 hc.1 hv0 hv).2
      by_cases h9 : (i : Int) = 9
      · rw [if_pos h9]
        exact hj3 _ (fun h => decide_eq_true h.2) (fun h => decide_eq_false (fun h' => h ⟨by omega, h'⟩))
      · rw [if_neg h9]
        exact hj3 _ (fun h => absurd h.1 (by omega)) (fun _ => rfl)
    · rw [if_neg (by rw [decide_eq_false hin]; decide), if_neg hin]
/-- What TakeVar tells. -/
def tkv (l : List Int) (a : Int) : Int × Int := if a < 0 ∨ a ≥ (l.length : Int) then (0, -1) else tk l a 10 0 0
theorem impl_take (l : List Int) (a : Int) (hb : ∀ x ∈ l, 0 ≤ x ∧ x < 256) (hl : l.length ≤ 9000000000000000000) (k : Nat) (hk : 40 < k) : impl_TakeVar.f k l a = some (tkv l a) := by
  obtain ⟨k, rfl⟩ : ∃ m, k = m + 1 := ⟨k - 1, by omega⟩
  unfold impl_TakeVar.f tkv
  by_cases h : a < 0
  · rw [if_pos h, if_pos (show a < 0 ∨ a ≥ (l.length : Int) from .inl h)]
    simp [impl_TakeVar.j0]
  · rw [if_neg h]
    by_cases h' : a ≥ (l.length : Int)
    · rw [decide_eq_true h', if_pos (show a < 0 ∨ a ≥ (l.length : Int) from .inr h')]
      simp [impl_TakeVar.j0]
    · rw [decide_eq_false h', if_neg (show ¬ (a < 0 ∨ a ≥ (l.length : Int)) from by omega)]
      simp only [impl_TakeVar.j0]
      rw [if_neg (by decide)]
      exact impl_tk l a hb hl (by omega) (by omega) 10 k 0 0 (by omega) (by omega) (by omega) (by simp)

end Go.Proofs.Ytijdnbenofnglaa.U
