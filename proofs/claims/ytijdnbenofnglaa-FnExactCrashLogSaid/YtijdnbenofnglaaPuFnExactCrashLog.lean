/- The plain statement of the law FnExactCrashLog: for all arguments in range it answers true; no further condition. -/
import Derived.Test.YtijdnbenofnglaaPrx16
import Derived.Test.YtijdnbenofnglaaPrx17
import Derived.Test.YtijdnbenofnglaaUB
import Derived.Test.YtijdnbenofnglaaUHByteS
import Derived.Test.YtijdnbenofnglaaWFFnExactCrashLog
namespace Go.Proofs.Ytijdnbenofnglaa.PuFnExactCrashLog
open Go.RowKit Go.Proofs.Ytijdnbenofnglaa.Pr Go.Proofs.YtijdnbenofnglaaW.PrintWords Go.Proofs.YtijdnbenofnglaaW.PrintLast Go.Proofs.YtijdnbenofnglaaW.PrintMore Go.Proofs.Ytijdnbenofnglaa.U Go.Proofs.Ytijdnbenofnglaa.WFFnExactCrashLog
set_option linter.unusedVariables false
set_option linter.unusedSimpArgs false

def cr (l : List Int) (n : Int) : List Int := if (l.length : Int) > 200000 ∨ n < 0 ∨ n > (l.length : Int) then [] else l.take n.toNat
theorem crash_spec (l : List Int) (hl : l.length ≤ 1048576) (n : Int) : spec_CrashLog.f l n = some (cr l n) := by
  unfold spec_CrashLog.f cr
  by_cases h1 : (l.length : Int) > 200000
  · rw [if_pos h1, if_pos (.inl h1)]
  · rw [if_neg h1]
    by_cases h2 : n < 0
    · rw [if_pos h2, if_pos (.inr (.inl h2))]
    · rw [if_neg h2]
      by_cases h3 : n > (l.length : Int)
      · rw [if_pos h3, if_pos (.inr (.inr h3))]
      · rw [if_neg h3, if_neg (show ¬ ((l.length : Int) > 200000 ∨ n < 0 ∨ n > (l.length : Int)) from by omega), if_pos (show 0 ≤ n from by omega), if_pos (show n ≤ (l.length : Int) from by omega), if_pos (by rw [List.length_take, List.length_nil]; omega), List.nil_append]
theorem crash_impl (l : List Int) (hl : l.length ≤ 1048576) (n : Int) : impl_CrashLog.f l n = some (cr l n) := by
  unfold impl_CrashLog.f cr slices_Clone_byte_byte.f
  by_cases h1 : (l.length : Int) > 200000
  · rw [if_pos h1, if_pos (.inl h1)]
  · rw [if_neg h1]
    by_cases h2 : n < 0
    · rw [if_pos h2, if_pos (.inr (.inl h2))]
    · rw [if_neg h2]
      by_cases h3 : n > (l.length : Int)
      · rw [if_pos h3, if_pos (.inr (.inr h3))]
      · rw [if_neg h3, if_neg (show ¬ ((l.length : Int) > 200000 ∨ n < 0 ∨ n > (l.length : Int)) from by omega), if_pos (show 0 ≤ n from by omega), if_pos (show n ≤ (l.length : Int) from by omega), if_pos (by rw [List.length_take]; omega)]
        rfl
theorem cr_len (l : List Int) (hl : l.length ≤ 1048576) (n : Int) : (cr l n).length ≤ 1048576 := by
  unfold cr
  split
  · simp
  · rw [List.length_take]; omega
theorem pure : Pure := by
  intro l n ⟨hm, hw⟩ hn
  refine Ev.rounds (g := fun k => laws_FnExactCrashLog.f k l n) ?_
  unfold laws_FnExactCrashLog.f
  refine ev_ite (fun _ => ev_now _) (fun hn => ?_)
  have hl : l.length ≤ 1048576 := by omega
  have hc := cr_len l hl n
  obtain ⟨y1, c1, m1, _, a1, b1⟩ := markByteS l hl 1 (by omega) (by omega)
  obtain ⟨y3, c3, m3, h3, a3, b3⟩ := markByteS (cr l n) hc 1 (by omega) (by omega)
  have tl := toByteS l hl
  have ev := eqByteS _ hc
  refine ev_bind tl (ev_bind (ev_eq (crash_spec l hl n)) (ev_bind tl (ev_bind (ev_eq (crash_impl l hl n)) (ev_bind ev (ev_pos rfl (ev_bind tl (ev_bind (eqByteS _ hl) (ev_pos rfl (ev_bind m1 (ev_neg (by omega) (ev_bind ev ?_)))))))))))
  exact ev_step (fun _ => laws_FnExactCrashLog.j0.eq_2 ..) (ev_neg (by simp) (ev_bind m3 (ev_bind h3 (ev_neg (by omega) (ev_pos rfl (ev_bind tl (ev_bind (ev_eq (crash_impl l hl n)) (ev_bind ev (ev_pos rfl (ev_bind h3 (ev_neg (by omega) (ev_pos rfl (ev_now _)))))))))))))

end Go.Proofs.Ytijdnbenofnglaa.PuFnExactCrashLog
