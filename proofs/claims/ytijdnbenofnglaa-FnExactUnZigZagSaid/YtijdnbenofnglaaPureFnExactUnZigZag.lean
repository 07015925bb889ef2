/- For every input the law FnExactUnZigZag answers true: the plain statement over numbers and lists that the printed functions leave; no further condition. -/
import Derived.Test.YtijdnbenofnglaaPFnExactUnZigZagx1
namespace Go.Proofs.Ytijdnbenofnglaa.Pure
open Go.RowKit Go.Proofs.Ytijdnbenofnglaa.PFnExactUnZigZag Go.Proofs.YtijdnbenofnglaaW.PrintWords Go.Proofs.YtijdnbenofnglaaW.PrintLast Go.Proofs.YtijdnbenofnglaaW.PrintMore

theorem w64 {x : Int} (h0 : -9223372036854775808 ≤ x) (h1 : x ≤ 9223372036854775807) : wrap64 x = x := by unfold wrap64; omega
theorem wf64 {x : Int} (h : (Lit.int .i64 x).wf = true) : -9223372036854775808 ≤ x ∧ x ≤ 9223372036854775807 := by
  simp [Lit.wf, IntKind.min, IntKind.max, IntKind.bits, IntKind.signed] at h
  omega
theorem wu64 (n : Int) : IntKind.u64.wrap n = n % 18446744073709551616 := by simp [IntKind.wrap, IntKind.bits, IntKind.signed]
theorem bu64 (op : BinOp) (x y : Int) : 0 ≤ bits op .u64 x y ∧ bits op .u64 x y < 18446744073709551616 := by
  unfold bits
  simp only [wu64]
  omega
theorem bu32 (op : BinOp) (x y : Int) : 0 ≤ bits op .u32 x y ∧ bits op .u32 x y < 4294967296 := by
  unfold bits
  simp only [IntKind.wrap_u32]
  omega
theorem or_comm_ (k : IntKind) (x y : Int) : bits .or k x y = bits .or k y x := by
  simp only [bits, BitVec.or_comm]
theorem xor0 {x : Int} (h0 : -9223372036854775808 ≤ x) (h1 : x ≤ 9223372036854775807) : bits .xor .i64 x 0 = x := by
  have e : BitVec.ofInt IntKind.i64.bits x ^^^ BitVec.ofInt IntKind.i64.bits 0 = BitVec.ofInt IntKind.i64.bits x := by
    rw [show BitVec.ofInt IntKind.i64.bits 0 = 0#_ from by decide, BitVec.xor_zero]
  simp only [bits, e]
  rw [IntKind.wrap_i64, BitVec.toNat_ofInt]
  show ((((x % ((2 ^ 64 : Nat) : Int)).toNat : Nat) : Int) + 9223372036854775808) % 18446744073709551616 - 9223372036854775808 = x
  omega
theorem xor1 {x : Int} (h0 : -9223372036854775808 ≤ x) (h1 : x ≤ 9223372036854775807) : bits .xor .i64 x (-1) = -x - 1 := by
  have e : BitVec.ofInt IntKind.i64.bits x ^^^ BitVec.ofInt IntKind.i64.bits (-1) = ~~~ BitVec.ofInt IntKind.i64.bits x := by
    rw [show BitVec.ofInt IntKind.i64.bits (-1) = BitVec.allOnes _ from by decide, BitVec.xor_allOnes]
  simp only [bits, e]
  rw [IntKind.wrap_i64, BitVec.toNat_not, BitVec.toNat_ofInt]
  show ((((2 ^ 64 - 1 - (x % ((2 ^ 64 : Nat) : Int)).toNat : Nat)) : Int) + 9223372036854775808) % 18446744073709551616 - 9223372036854775808 = -x - 1
  omega
theorem and1 (x : Int) : bits .and .i64 x 1 = x % 2 := by
  have e : (BitVec.ofInt IntKind.i64.bits x &&& BitVec.ofInt IntKind.i64.bits 1).toNat = (x % ((2 ^ 64 : Nat) : Int)).toNat % 2 := by
    rw [BitVec.toNat_and, show (BitVec.ofInt IntKind.i64.bits 1).toNat = 1 from by decide, Nat.and_one_is_mod, BitVec.toNat_ofInt]
    rfl
  simp only [bits, e]
  rw [IntKind.wrap_i64]
  omega
def uzz (n : Int) : Int := if n % 2 = 1 then -(n % 18446744073709551616 / 2) - 1 else n % 18446744073709551616 / 2
theorem impl_uzz (n : Int) : impl_UnZigZag.f n = some (uzz n) := by
  unfold impl_UnZigZag.f uzz
  rw [and1, wu64]
  have hw : wrap64 (n % 18446744073709551616 / 2) = n % 18446744073709551616 / 2 := w64 (by omega) (by omega)
  rw [hw]
  by_cases h : n % 2 = 1
  · rw [if_pos h, h, w64 (by omega) (by omega), xor1 (by omega) (by omega)]
  · rw [if_neg h, show n % 2 = 0 from by omega, w64 (by omega) (by omega)]
    exact congrArg some (xor0 (by omega) (by omega))
theorem FnExactUnZigZag : laws_FnExactUnZigZag.Pure := by
  intro n hn
  unfold laws_FnExactUnZigZag.f
  rw [impl_uzz]
  have e : spec_UnZigZag.f n = some (uzz n) := by
    unfold spec_UnZigZag.f uzz
    rw [wu64, wu64, Int.tmod_eq_emod_of_nonneg (by omega), Int.tdiv_eq_ediv_of_nonneg (by omega)]
    rw [w64 (x := n % 18446744073709551616 / 2 % 18446744073709551616) (by omega) (by omega)]
    by_cases h : n % 2 = 1
    · rw [if_pos (by omega), if_pos h, w64 (x := -(n % 18446744073709551616 / 2 % 18446744073709551616)) (by omega) (by omega), w64 (by omega) (by omega)]
      congr 1
      omega
    · rw [if_neg (by omega), if_neg h]
      congr 1
      omega
  rw [e]
  simp

end Go.Proofs.Ytijdnbenofnglaa.Pure
