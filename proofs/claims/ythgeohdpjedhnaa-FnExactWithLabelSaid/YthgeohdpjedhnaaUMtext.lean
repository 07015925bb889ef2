/- Plain lemmas over the printed functions, for the laws' plain statements; each theorem states its own conditions. -/
import Derived.Test.YthgeohdpjedhnaaPrxgaa552n1
import Derived.Test.YthgeohdpjedhnaaUB
namespace Go.Proofs.Ythgeohdpjedhnaa.U
open Go.RowKit Go.Proofs.Ythgeohdpjedhnaa.Pr Go.Proofs.YthgeohdpjedhnaaW.PrintWords Go.Proofs.YthgeohdpjedhnaaW.PrintLast Go.Proofs.YthgeohdpjedhnaaW.PrintMore
set_option linter.unusedVariables false
set_option linter.unusedSimpArgs false

theorem markText_l (m : Nat) : ∀ (c : Int) (s : ByteArray), 0 ≤ c → c < 10 ^ m → c ≤ 9223372036854775807 → s.size + m < 1000 → ∃ r, Ev (fun k => laws_markText.l0 k c s) r := by
  induction m with
  | zero =>
    intro c s h0 h1 _ h2
    simp at h1
    have hs : 1 + s.size ≤ 9223372036854775807 := by omega
    exact ⟨_, ev_step (fun _ => laws_markText.l0.eq_2 ..) (ev_neg (by omega) (ev_pos hs (ev_now _)))⟩
  | succ m ih =>
    intro c s h0 h1 h1' h2
    by_cases hc : c > 0
    · rw [Int.pow_succ] at h1
      have e : wrap64 (Int.tdiv c 10) = c / 10 := by rw [Int.tdiv_eq_ediv_of_nonneg h0, w64 (by omega) (by omega)]
      have hz : ∀ x : Int, (strOfNums [x]).size = 1 := fun x => strOfNums_size [x]
      obtain ⟨r, hr⟩ := ih (c / 10) (strOfNums [wrap64 (48 + Int.tmod c 10) % 256] ++ s) (by omega) (by generalize (10 : Int) ^ m = p at h1 ⊢; omega) (by omega) (by rw [ByteArray.size_append, hz]; omega)
      refine ⟨r, ev_step (fun _ => laws_markText.l0.eq_2 ..) (ev_pos hc (ev_some (ev_pos (by rw [hz]; omega) ?_)))⟩
      rw [e]
      exact hr
    · have hs : 1 + s.size ≤ 9223372036854775807 := by omega
      exact ⟨_, ev_step (fun _ => laws_markText.l0.eq_2 ..) (ev_neg hc (ev_pos hs (ev_now _)))⟩
theorem markText (c : Int) (h0 : 0 < c) (h1 : c ≤ 9223372036854775807) : ∃ r, Ev (fun k => laws_markText.f k c) r := by
  obtain ⟨r, hr⟩ := markText_l 19 c ⟨#[]⟩ (by omega) (Int.lt_of_le_of_lt h1 (by decide)) h1 (by decide)
  refine ⟨r, ?_⟩
  unfold laws_markText.f
  exact ev_neg (by omega) hr

end Go.Proofs.Ythgeohdpjedhnaa.U
