/- Functions of the given program as plain Lean functions, and that the machine's calls come to them; written by a program of this session; no condition but those that each theorem states. -/
import Derived.Test.YtfdbbpnmnogddaaGreatDoorWEqStruct
import Derived.Test.YtfdbbpnmnogddaaGreatDoorPrx0
namespace Go.Proofs.YtfdbbpnmnogddaaGreatDoor.Pr
open Go.RowKit Go.Proofs.YtfdbbpnmnogddaaGreatDoorW.PrintWords Go.Proofs.YtfdbbpnmnogddaaGreatDoorW.PrintLast Go.Proofs.YtfdbbpnmnogddaaGreatDoorW.PrintMore
attribute [local go_sem] max2_int min2_int max_two min_two max_three min_three max_four min_four
set_option linter.unusedVariables false
set_option linter.unusedSimpArgs false
theorem eqA70 (d:Nat)(w:World)(x0 y0:ByteArray)(x1 y1:ByteArray) :
    (Op.equalIn (d+2) 70 (.agg #[.string x0,.string x1]) (.agg #[.string y0,.string y1])).run Tryz.prog w = .ok (x0.toList==y0.toList&&(x1.toList==y1.toList)) w:=by
  refine eqA_of Tryz.underlying70 (by kernel_rfl) ?_
  refine eqf_cons (by rfl) (by go_simp;rfl) (by go_simp;rfl) (by go_simp) ?_
  exact eqf_last (by rfl) (by go_simp;rfl) (by go_simp;rfl) (by go_simp)
end Go.Proofs.YtfdbbpnmnogddaaGreatDoor.Pr
