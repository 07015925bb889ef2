/- Plain lemmas over the printed functions, for the laws' plain statements; each theorem states its own conditions. -/
import Derived.Test.YtjapdjkckhcelaaPrxgd801bn1
import Derived.Test.YtjapdjkckhcelaaPrxgd801bn2
import Derived.Test.YtjapdjkckhcelaaUB
import Derived.Test.YtjapdjkckhcelaaUX
import Derived.Test.YtjapdjkckhcelaaUHByteS
namespace Go.Proofs.Ytjapdjkckhcelaa.U
open Go.RowKit Go.Proofs.Ytjapdjkckhcelaa.Pr Go.Proofs.YtjapdjkckhcelaaW.PrintWords Go.Proofs.YtjapdjkckhcelaaW.PrintLast Go.Proofs.YtjapdjkckhcelaaW.PrintMore
set_option linter.unusedVariables false
set_option linter.unusedSimpArgs false

def bitAt (l : List Int) (i : Nat) : Int := rd l ((i / 8 : Nat) : Int) / 2 ^ (7 - i % 8) % 2
theorem wu8 (n : Int) : IntKind.u8.wrap n = n % 256 := IntKind.wrap_u8 n
theorem byte_at {l : List Int} (hb : ∀ x ∈ l, 0 ≤ x ∧ x < 256) (j : Int) : 0 ≤ rd l j ∧ rd l j < 256 := by
  unfold rd
  rw [List.getD_eq_getElem?_getD]
  cases h : l[j.toNat]? with
  | none => simp
  | some x => exact hb x (List.mem_of_getElem? h)
theorem shr_u8 {x : Int} {d : Nat} (hd : d ≤ 8) : shr .u8 x (IntKind.u64.wrap (wrap64 (d : Int))) = x / 2 ^ d := by
  unfold shr
  rw [w64 (by omega) (by omega), wu64, show (d : Int) % 18446744073709551616 = d from by omega, Int.toNat_natCast, show min d IntKind.u8.bits = d from by show min d 8 = d; omega]
theorem l1Bit_at (l : List Int) (hb : ∀ x ∈ l, 0 ≤ x ∧ x < 256) (z : Int) (i : Nat) (h : i / 8 < l.length) (hi : i ≤ 9000000000000000000) : spec_l1Bit.f l z (i : Int) = some (bitAt l i) := by
  unfold spec_l1Bit.f bitAt
  have e1 : wrap64 (Int.tdiv (i : Int) 8) = ((i / 8 : Nat) : Int) := by rw [Int.tdiv_eq_ediv_of_nonneg (by omega), w64 (by omega) (by omega)]; omega
  have e2 : (7 : Int) - Int.tmod (i : Int) 8 = ((7 - i % 8 : Nat) : Int) := by rw [Int.tmod_eq_emod_of_nonneg (by omega)]; omega
  rw [e1, e2, if_pos (by omega), if_pos (by omega), if_pos (by rw [wu64]; omega), shr_u8 (by omega), and1]
  have hy := byte_at hb ((i / 8 : Nat) : Int)
  have hp : (0 : Int) < 2 ^ (7 - i % 8) := Int.pow_pos (by decide)
  have h0 : 0 ≤ rd l ((i / 8 : Nat) : Int) / 2 ^ (7 - i % 8) := Int.ediv_nonneg hy.1 (Int.le_of_lt hp)
  have h1 : rd l ((i / 8 : Nat) : Int) / 2 ^ (7 - i % 8) ≤ rd l ((i / 8 : Nat) : Int) := Int.ediv_le_self _ hy.1
  rw [w64 (by omega) (by omega)]
/-- Bits that are 0, d of them from i on. -/
def az (l : List Int) : Nat → Nat → Bool
  | 0, _ => true
  | d + 1, i => decide (bitAt l i = 0) && az l d (i + 1)
def zr (b : Int) : Nat → Bool
  | 0 => true
  | d + 1 => decide (b / 2 ^ d % 2 = 0) && zr b d
theorem zr_dec : ∀ b : Fin 256, ∀ s : Fin 8, zr ((b.val : Nat) : Int) (8 - s.val) = decide ((((b.val : Nat) : Int) * 2 ^ s.val) % 256 = 0) := by decide +kernel
theorem zr_eq {b : Int} (h0 : 0 ≤ b) (h1 : b < 256) {s : Nat} (hs : s < 8) : zr b (8 - s) = decide ((b * 2 ^ s) % 256 = 0) := by
  have h := zr_dec ⟨b.toNat, by omega⟩ ⟨s, hs⟩
  simp only [show ((b.toNat : Nat) : Int) = b from by omega] at h
  exact h
theorem az_zr (l : List Int) (n : Nat) : ∀ d j, j + d = 8 → az l d (8 * n + j) = zr (rd l (n : Int)) d := by
  intro d
  induction d with
  | zero => intros; rfl
  | succ d ih =>
    intro j hj
    simp only [az, zr]
    rw [show 8 * n + j + 1 = 8 * n + (j + 1) from by omega, ih (j + 1) (by omega)]
    unfold bitAt
    rw [show (8 * n + j) / 8 = n from by omega, show 7 - (8 * n + j) % 8 = d from by omega]
def goodB (l : List Int) (z : Int) : Bool := decide (0 ≤ z) && decide (z ≤ 80000) && decide ((l.length : Int) = (z + 7) / 8) && (decide (z % 8 = 0) || decide ((rd l ((l.length : Int) - 1) * 2 ^ (z % 8).toNat) % 256 = 0))
theorem goodBits_impl (l : List Int) (hl : l.length ≤ 9223372036854775807) (z : Int) (hz : -9223372036854775808 ≤ z ∧ z ≤ 9223372036854775807) : impl_GoodBits.f l z = some (goodB l z) := by
  unfold impl_GoodBits.f goodB
  by_cases h0 : z < 0
  · rw [if_pos h0, decide_eq_false (by omega)]
    simp
  · rw [if_neg h0, decide_eq_true (by omega)]
    by_cases h1 : z > 80000
    · rw [if_pos h1, decide_eq_false (show ¬ z ≤ 80000 from by omega)]
      simp
    · have e : wrap64 (Int.tdiv (wrap64 (z + 7)) 8) = (z + 7) / 8 := by rw [w64 (x := z + 7) (by omega) (by omega), Int.tdiv_eq_ediv_of_nonneg (by omega), w64 (by omega) (by omega)]
      rw [if_neg h1, decide_eq_true (show z ≤ 80000 from by omega), e]
      by_cases h2 : (l.length : Int) = (z + 7) / 8
      · rw [if_pos h2, decide_eq_true h2, Int.tmod_eq_emod_of_nonneg (by omega)]
        by_cases h3 : z % 8 = 0
        · rw [if_pos h3, decide_eq_true h3]
          simp
        · rw [if_neg h3, decide_eq_false h3, w64 (x := (l.length : Int) - 1) (by omega) (by omega), if_pos (by omega), if_pos (by omega), if_pos (by omega)]
          have es : shl .u8 (rd l ((l.length : Int) - 1)) (z % 8) = (rd l ((l.length : Int) - 1) * 2 ^ (z % 8).toNat) % 256 := by
            unfold shl
            rw [wu8, show min (z % 8).toNat IntKind.u8.bits = (z % 8).toNat from by show min _ 8 = _; omega]
          rw [es]
          simp
          rfl
      · rw [if_neg h2, decide_eq_false h2]
        simp
theorem goodBits_l (l : List Int) (hb : ∀ x ∈ l, 0 ≤ x ∧ x < 256) (hl : l.length ≤ 1048576) (z : Int) : ∀ d i, i + d = 8 * l.length → Ev (fun k => spec_GoodBits.l0 k (i : Int) l z) (az l d i) := by
  intro d
  induction d with
  | zero =>
    intro i hi
    have e : wrap64 (8 * (l.length : Int)) = 8 * l.length := w64 (by omega) (by omega)
    refine ev_step (fun _ => spec_GoodBits.l0.eq_2 ..) ?_
    rw [e]
    exact ev_neg (by omega) (ev_now _)
  | succ d ih =>
    intro i hi
    have e : wrap64 (8 * (l.length : Int)) = 8 * l.length := w64 (by omega) (by omega)
    refine ev_step (fun _ => spec_GoodBits.l0.eq_2 ..) ?_
    rw [e]
    refine ev_pos (by omega) (ev_bind (ev_eq (l1Bit_at l hb z i (by omega) (by omega))) ?_)
    simp only [az]
    by_cases hz : bitAt l i = 0
    · rw [decide_eq_true hz, Bool.true_and, w64n (show i < 8 * l.length from by omega) (by omega)]
      exact ev_pos hz (ih (i + 1) (by omega))
    · rw [decide_eq_false hz, Bool.false_and]
      exact ev_neg hz (ev_now _)
theorem goodBits_spec (l : List Int) (hb : ∀ x ∈ l, 0 ≤ x ∧ x < 256) (hl : l.length ≤ 1048576) (z : Int) (hz : -9223372036854775808 ≤ z ∧ z ≤ 9223372036854775807) : Ev (fun k => spec_GoodBits.f k l z) (goodB l z) := by
  unfold spec_GoodBits.f goodB
  by_cases h0 : z < 0
  · rw [decide_eq_false (show ¬ 0 ≤ z from by omega)]
    exact ev_pos h0 (ev_step (fun _ => spec_GoodBits.j0.eq_2 ..) (ev_pos rfl (ev_now _)))
  · rw [decide_eq_true (show 0 ≤ z from by omega)]
    refine ev_neg h0 ?_
    by_cases h1 : z > 80000
    · rw [decide_eq_false (show ¬ z ≤ 80000 from by omega)]
      exact ev_pos h1 (ev_step (fun _ => spec_GoodBits.j0.eq_2 ..) (ev_pos rfl (ev_now _)))
    · have e : wrap64 (Int.tdiv (wrap64 (z + 7)) 8) = (z + 7) / 8 := by rw [w64 (x := z + 7) (by omega) (by omega), Int.tdiv_eq_ediv_of_nonneg (by omega), w64 (by omega) (by omega)]
      rw [decide_eq_true (show z ≤ 80000 from by omega), e]
      refine ev_neg h1 (ev_step (fun _ => spec_GoodBits.j0.eq_2 ..) ?_)
      by_cases h2 : (l.length : Int) = (z + 7) / 8
      · rw [decide_eq_true h2]
        refine ev_neg (by simp [h2]) ?_
        obtain ⟨m, rfl⟩ := Int.eq_ofNat_of_zero_le (show 0 ≤ z from by omega)
        have hloop := goodBits_l l hb hl (m : Int) (8 * l.length - m) m (by omega)
        by_cases h3 : (m : Int) % 8 = 0
        · rw [decide_eq_true h3]
          rw [show 8 * l.length - m = 0 from by omega] at hloop
          exact hloop
        · rw [decide_eq_false h3, Bool.false_or, Bool.true_and, Bool.true_and, Bool.true_and]
          have e4 : az l (8 * l.length - m) m = zr (rd l ((l.length - 1 : Nat) : Int)) (8 - m % 8) := by
            have := az_zr l (l.length - 1) (8 - m % 8) (m % 8) (by omega)
            rw [← this]
            congr 1
            · omega
            · omega
          rw [e4, zr_eq (byte_at hb _).1 (byte_at hb _).2 (by omega)] at hloop
          rw [show ((m : Int) % 8).toNat = m % 8 from by omega, show ((l.length : Int) - 1) = ((l.length - 1 : Nat) : Int) from by omega]
          exact hloop
      · rw [decide_eq_false h2]
        exact ev_pos (by simp [h2]) (ev_now _)
theorem toBits (l : List Int) (hl : l.length ≤ 1048576) (z : Int) : Ev (fun k => laws_toBits.f k l z) (l, z) := by
  unfold laws_toBits.f
  exact ev_bind (toByteS l hl) (ev_now _)
theorem eqBits (l : List Int) (hl : l.length ≤ 1048576) (z : Int) : Ev (fun k => laws_eqBits.f k l z l z) true := by
  unfold laws_eqBits.f
  exact ev_bind (eqByteS l hl) (ev_pos rfl (ev_pos rfl (ev_now _)))
theorem szBits (l : List Int) (hm : l.length ≤ maxLen) (z : Int) : ∃ r, laws_szBits.f l z 1048576 = some r ∧ (0 ≤ r → l.length ≤ 1048576) := by
  simp only [maxLen] at hm
  unfold laws_szBits.f laws_szByteS.f
  rw [w64 (x := 1048576 - (l.length : Int)) (by omega) (by omega)]
  by_cases h : 1048576 - (l.length : Int) < 0
  · rw [if_pos h]
    exact ⟨-1, rfl, by omega⟩
  · rw [if_neg h]
    exact ⟨_, by simp only [Option.bind_some]; rw [if_neg h], fun _ => by omega⟩

end Go.Proofs.Ytjapdjkckhcelaa.U
