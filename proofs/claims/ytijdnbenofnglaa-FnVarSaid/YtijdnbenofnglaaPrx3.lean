/- Functions of the given program as plain Lean functions, and that the machine's calls come to them; written by a program of this session; no condition but those that each theorem states. -/
import Derived.Test.YtijdnbenofnglaaPrx0
namespace Go.Proofs.Ytijdnbenofnglaa.Pr
open Go.RowKit Go.Proofs.YtijdnbenofnglaaW.PrintWords Go.Proofs.YtijdnbenofnglaaW.PrintLast Go.Proofs.YtijdnbenofnglaaW.PrintMore
attribute [local go_sem] max2_int min2_int max_two min_two max_three min_three max_four min_four   -- for this text's walks alone
set_option linter.unusedVariables false
set_option linter.unusedSimpArgs false

/-! ### impl_ZigZag: function 16 -/
def impl_ZigZag.f (a0 : Int) : Option (Int) := some (Go.bits .xor .i64 (wrap64 (a0 * 2)) (a0 / 9223372036854775808))
set_option maxHeartbeats 8000000 in
set_option maxRecDepth 100000 in
theorem impl_ZigZag.calls (a0 : Int) (r : Int) (w : World) (h : impl_ZigZag.f a0 = some r) :
    Calls Try.prog 16 #[.int .i64 a0] w fun e w' => e = .returned (.int .i64 r) ∧ Drawn0 w w' := by
  have H : (some (Go.bits .xor .i64 (wrap64 (a0 * 2)) (a0 / 9223372036854775808))) = some r := h
  clear h
  obtain rfl := Option.some.inj H
  go_enter Try.func16, Try.ntmps16
  go_wp2
  go_ret
  exact ⟨by first | rfl | (simp; done) | (simp [*]; done), by repeat (first | exact Drawn0.refl _ | apply Drawn0.step)⟩

end Go.Proofs.Ytijdnbenofnglaa.Pr
