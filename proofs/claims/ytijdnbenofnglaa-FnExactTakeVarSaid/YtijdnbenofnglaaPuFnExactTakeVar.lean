/- The plain statement of the law FnExactTakeVar: for all arguments in range it answers true; no further condition. -/
import Derived.Test.YtijdnbenofnglaaPrx11
import Derived.Test.YtijdnbenofnglaaPrx15
import Derived.Test.YtijdnbenofnglaaUB
import Derived.Test.YtijdnbenofnglaaUTK
import Derived.Test.YtijdnbenofnglaaUHByteS
import Derived.Test.YtijdnbenofnglaaWFFnExactTakeVar
namespace Go.Proofs.Ytijdnbenofnglaa.PuFnExactTakeVar
open Go.RowKit Go.Proofs.Ytijdnbenofnglaa.Pr Go.Proofs.YtijdnbenofnglaaW.PrintWords Go.Proofs.YtijdnbenofnglaaW.PrintLast Go.Proofs.YtijdnbenofnglaaW.PrintMore Go.Proofs.Ytijdnbenofnglaa.U Go.Proofs.Ytijdnbenofnglaa.WFFnExactTakeVar
set_option linter.unusedVariables false
set_option linter.unusedSimpArgs false

theorem spec_tk (l : List Int) (a : Int) (hb : ∀ x ∈ l, 0 ≤ x ∧ x < 256) (hl : l.length ≤ 9000000000000000000) (h0 : 0 ≤ a) (h1 : a ≤ 9000000000000000000) (d : Nat) :
    ∀ (k : Nat) (v : Int) (i : Nat), i + d = 10 → 2 * d + 3 < k → 0 ≤ v → v < 2 ^ (7 * i) → spec_TakeVar.l0 k l a v (i : Int) = some (tk l a d v i) := by
  induction d with
  | zero =>
    intro k v i hi hk hv0 hv
    obtain ⟨k, rfl⟩ : ∃ m, k = m + 2 := ⟨k - 2, by omega⟩
    simp only [spec_TakeVar.l0, tk]
    rw [if_neg (by omega)]
    simp [spec_TakeVar.j2]
  | succ d ih =>
    intro k v i hi hk hv0 hv
    obtain ⟨k, rfl⟩ : ∃ m, k = m + 2 := ⟨k - 2, by omega⟩
    simp only [spec_TakeVar.l0, tk]
    rw [if_pos (by omega), w64 (by omega) (by omega)]
    simp only [spec_TakeVar.j2]
    rw [w64 (by omega) (by omega)]
    by_cases hin : a + (i : Int) < (l.length : Int)
    · have hc := byte_at hb (a + (i : Int))
      rw [if_pos (decide_eq_true hin), if_pos (by omega), if_pos hin, if_pos hin]
      generalize rd l (a + (i : Int)) = c at *
      rw [w64 (x := 7 * (i : Int)) (by omega) (by omega), wu64 (7 * (i : Int)), show 7 * (i : Int) % 18446744073709551616 = 7 * (i : Int) from by omega, if_pos (by omega), wu64 c, show c % 18446744073709551616 = c from by omega, Int.tmod_eq_emod_of_nonneg hc.1,
        w64 (x := a + (i : Int) + 1) (by omega) (by omega), w64 (x := (i : Int) + 1) (by omega) (by omega)]
      by_cases hs : i = 9 ∧ c > 1
      · rw [if_pos hs]
        by_cases hlt : c < 128
        · rw [if_pos hlt, if_pos (by omega), if_neg (by omega), if_pos (by omega), if_pos hs.2]
        · rw [if_neg hlt]
          obtain ⟨k, rfl⟩ : ∃ m, k = m + 2 := ⟨k - 2, by omega⟩
          simp only [spec_TakeVar.l0]
          rw [if_neg (by omega)]
          simp [spec_TakeVar.j2]
      · have hs' : i < 9 ∨ i = 9 ∧ c ≤ 1 := by omega
        have hf := fits7 hc.1 hc.2 hs'
        rw [if_neg hs, shl7 hc.1 hc.2 hs', wu64, show (v + c % 128 * 2 ^ (7 * i)) % 18446744073709551616 = v + c % 128 * 2 ^ (7 * i) from by omega]
        by_cases hlt : c < 128
        · rw [if_pos hlt, if_pos hlt, show c % 128 = c from by omega]
          by_cases hi0 : i > 0
          · rw [if_pos (by omega)]
            by_cases hz : c = 0
            · rw [if_pos hz, if_pos ⟨hz, hi0⟩]
            · rw [if_neg hz, if_neg (show ¬ (c = 0 ∧ i > 0) from fun h => hz h.1)]
              by_cases h9 : (i : Int) = 9
              · rw [if_pos h9, if_neg (by omega)]
              · rw [if_neg h9]
          · rw [if_neg (by omega), if_neg (show ¬ (i : Int) = 9 from by omega), if_neg (show ¬ (c = 0 ∧ i > 0) from fun h => hi0 h.2)]
        · rw [if_neg hlt, if_neg hlt, show ((i : Int) + 1) = ((i + 1 : Nat) : Int) from by omega]
          exact ih k _ (i + 1) (by omega) (by omega) (next7 hc.1 hv0 hv).1 (next7 hc.1 hv0 hv).2
    · rw [if_neg (by rw [decide_eq_false hin]; decide), if_neg hin]
theorem spec_take (l : List Int) (a : Int) (hb : ∀ x ∈ l, 0 ≤ x ∧ x < 256) (hl : l.length ≤ 9000000000000000000) (k : Nat) (hk : 40 < k) : spec_TakeVar.f k l a = some (tkv l a) := by
  obtain ⟨k, rfl⟩ : ∃ m, k = m + 1 := ⟨k - 1, by omega⟩
  unfold spec_TakeVar.f tkv
  by_cases h : a < 0
  · rw [if_pos h, if_pos (show a < 0 ∨ a ≥ (l.length : Int) from .inl h)]
    simp [spec_TakeVar.j0]
  · rw [if_neg h]
    by_cases h' : a ≥ (l.length : Int)
    · rw [decide_eq_true h', if_pos (show a < 0 ∨ a ≥ (l.length : Int) from .inr h')]
      simp [spec_TakeVar.j0]
    · rw [decide_eq_false h', if_neg (show ¬ (a < 0 ∨ a ≥ (l.length : Int)) from by omega)]
      simp only [spec_TakeVar.j0]
      rw [if_neg (by decide)]
      exact spec_tk l a hb hl (by omega) (by omega) 10 k 0 0 (by omega) (by omega) (by omega) (by simp)
theorem pure : Pure := by
  intro l a ⟨hm, hw⟩ ha
  refine Ev.rounds (g := fun k => laws_FnExactTakeVar.f k l a) ?_
  unfold laws_FnExactTakeVar.f
  refine ev_ite (fun _ => ev_now _) (fun hn => ?_)
  have hl : l.length ≤ 1048576 := by omega
  have e1 : Ev (fun k => impl_TakeVar.f k l a) (tkv l a) := ⟨41, fun k hk => impl_take l a hw (by omega) k (by omega)⟩
  have e2 : Ev (fun k => spec_TakeVar.f k l a) (tkv l a) := ⟨41, fun k hk => spec_take l a hw (by omega) k (by omega)⟩
  refine ev_bind (toByteS l hl) (ev_bind e2 (ev_bind (toByteS l hl) (ev_bind e1 (ev_pos rfl ?_))))
  refine ev_step (fun _ => laws_FnExactTakeVar.j0.eq_2 ..) (ev_neg (by simp) (ev_bind (toByteS l hl) (ev_bind (eqByteS l hl) (ev_pos rfl (ev_now _)))))

end Go.Proofs.Ytijdnbenofnglaa.PuFnExactTakeVar
