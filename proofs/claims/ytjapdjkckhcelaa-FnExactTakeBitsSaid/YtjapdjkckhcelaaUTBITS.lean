/- Plain lemmas over the printed functions, for the laws' plain statements; each theorem states its own conditions. -/
import Derived.Test.YtjapdjkckhcelaaPrxgd1ec8n1
import Derived.Test.YtjapdjkckhcelaaUB
import Derived.Test.YtjapdjkckhcelaaUX
import Derived.Test.YtjapdjkckhcelaaUHByteS
import Derived.Test.YtjapdjkckhcelaaUBITS
namespace Go.Proofs.Ytjapdjkckhcelaa.U
open Go.RowKit Go.Proofs.Ytjapdjkckhcelaa.Pr Go.Proofs.YtjapdjkckhcelaaW.PrintWords Go.Proofs.YtjapdjkckhcelaaW.PrintLast Go.Proofs.YtjapdjkckhcelaaW.PrintMore
set_option linter.unusedVariables false
set_option linter.unusedSimpArgs false

theorem bitAt_01 (l : List Int) (i : Nat) : 0 ≤ bitAt l i ∧ bitAt l i < 2 := by unfold bitAt; omega
/-- d bits from i on behind v. -/
def tb (l : List Int) : Nat → Nat → Int → Int
  | 0, _, v => v
  | d + 1, i, v => tb l d (i + 1) (bits .or .u64 (IntKind.u64.wrap (v * 2)) (bitAt l i))
theorem and1_u8 {x : Int} (h0 : 0 ≤ x) (h1 : x < 256) : bits .and .u8 x 1 = x % 2 := bits_mask .u8 8 (by decide) wraps_u8 1 (by decide) x h0 h1
theorem tb_impl (l : List Int) (hb : ∀ x ∈ l, 0 ≤ x ∧ x < 256) (at_ n : Nat) (hn : at_ + n ≤ 9000000000000000000) (hl : at_ + n ≤ 8 * l.length) : ∀ (d i : Nat) (v : Int), i + d = at_ + n → Ev (fun k => impl_takeBits.l0 k l (at_ : Int) (n : Int) v (i : Int)) (wrap64 (tb l d i v)) := by
  have w1 : wrap64 ((at_ : Int) + (n : Int)) = ((at_ + n : Nat) : Int) := by rw [w64 (by omega) (by omega)]; omega
  intro d
  induction d with
  | zero =>
    intro i v hi
    refine ev_step (fun _ => impl_takeBits.l0.eq_2 ..) ?_
    rw [w1]
    exact ev_neg (by omega) (ev_now _)
  | succ d ih =>
    intro i v hi
    refine ev_step (fun _ => impl_takeBits.l0.eq_2 ..) ?_
    have e1 : wrap64 (Int.tdiv (i : Int) 8) = ((i / 8 : Nat) : Int) := by rw [Int.tdiv_eq_ediv_of_nonneg (by omega), w64 (by omega) (by omega)]; omega
    have e2 : wrap64 ((7 : Int) - Int.tmod (i : Int) 8) = ((7 - i % 8 : Nat) : Int) := by rw [Int.tmod_eq_emod_of_nonneg (by omega), w64 (by omega) (by omega)]; omega
    have e3 : shr .u8 (rd l ((i / 8 : Nat) : Int)) ((7 - i % 8 : Nat) : Int) = rd l ((i / 8 : Nat) : Int) / 2 ^ (7 - i % 8) := by
      unfold shr
      rw [Int.toNat_natCast, show min (7 - i % 8) IntKind.u8.bits = 7 - i % 8 from by show min _ 8 = _; omega]
    have hy := byte_at hb ((i / 8 : Nat) : Int)
    have hp : (0 : Int) < 2 ^ (7 - i % 8) := Int.pow_pos (by decide)
    have h0 : 0 ≤ rd l ((i / 8 : Nat) : Int) / 2 ^ (7 - i % 8) := Int.ediv_nonneg hy.1 (Int.le_of_lt hp)
    have h1 : rd l ((i / 8 : Nat) : Int) / 2 ^ (7 - i % 8) ≤ rd l ((i / 8 : Nat) : Int) := Int.ediv_le_self _ hy.1
    rw [w1, e1, e2, e3, and1_u8 h0 (by omega), w64n (show i < at_ + n from by omega) (by omega)]
    refine ev_pos (by omega) (ev_pos (by omega) (ev_pos (by omega) (ev_pos (by omega) ?_)))
    have hb01 := bitAt_01 l i
    rw [show rd l ((i / 8 : Nat) : Int) / 2 ^ (7 - i % 8) % 2 = bitAt l i from rfl, show IntKind.u64.wrap (bitAt l i) = bitAt l i from by rw [wu64]; omega]
    exact ih (i + 1) _ (by omega)
theorem tb_spec (l : List Int) (hb : ∀ x ∈ l, 0 ≤ x ∧ x < 256) (z : Int) (at_ n : Nat) (hn : at_ + n ≤ 9000000000000000000) (hl : at_ + n ≤ 8 * l.length) : ∀ (d i : Nat) (v : Int), i + d = n → Ev (fun k => spec_l1Take.l0 k (at_ : Int) (n : Int) v (i : Int) l z) (wrap64 (tb l d (at_ + i) v), true) := by
  intro d
  induction d with
  | zero =>
    intro i v hi
    exact ev_step (fun _ => spec_l1Take.l0.eq_2 ..) (ev_neg (by omega) (ev_now _))
  | succ d ih =>
    intro i v hi
    have w1 : wrap64 ((at_ : Int) + (i : Int)) = ((at_ + i : Nat) : Int) := by rw [w64 (by omega) (by omega)]; omega
    have hb01 := bitAt_01 l (at_ + i)
    refine ev_step (fun _ => spec_l1Take.l0.eq_2 ..) (ev_pos (by omega) ?_)
    rw [w1]
    refine ev_bind (ev_eq (l1Bit_at l hb z (at_ + i) (by omega) (by omega))) ?_
    rw [show IntKind.u64.wrap (bitAt l (at_ + i)) = bitAt l (at_ + i) from by rw [wu64]; omega, w64n (show i < n from by omega) (by omega)]
    exact ih (i + 1) _ (by omega)
/-- What TakeBits tells. -/
def tbv (l : List Int) (z a n : Int) : Int × Bool := if goodB l z = true ∧ 0 ≤ a ∧ 0 ≤ n ∧ n ≤ 64 ∧ a + n ≤ z then (wrap64 (tb l n.toNat a.toNat 0), true) else (0, false)
theorem goodB_parts {l : List Int} {z : Int} (h : goodB l z = true) : 0 ≤ z ∧ z ≤ 80000 ∧ (l.length : Int) = (z + 7) / 8 := by
  unfold goodB at h
  simp only [Bool.and_eq_true, decide_eq_true_eq] at h
  exact ⟨h.1.1.1, h.1.1.2, h.1.2⟩
theorem take_impl (l : List Int) (hb : ∀ x ∈ l, 0 ≤ x ∧ x < 256) (hl : l.length ≤ 1048576) (z a n : Int) (hz : -9223372036854775808 ≤ z ∧ z ≤ 9223372036854775807) (ha : -9223372036854775808 ≤ a ∧ a ≤ 9223372036854775807) : Ev (fun k => impl_TakeBits.f k l z a n) (tbv l z a n) := by
  unfold impl_TakeBits.f tbv
  refine ev_bind (ev_eq (goodBits_impl l (by omega) z hz)) (ev_ite (fun h1 => ?_) (fun h1 => ?_))
  · obtain ⟨z0, z1, zl⟩ := goodB_parts h1
    refine ev_ite (fun h2 => ?_) (fun h2 => ev_ite (fun h3 => ?_) (fun h3 => ev_ite (fun h4 => ?_) (fun h4 => ?_)))
    · rw [if_neg (by omega)]; exact ev_now _
    · rw [if_neg (by omega)]; exact ev_now _
    · rw [if_neg (by omega)]; exact ev_now _
    · rw [w64 (x := z - n) (by omega) (by omega)]
      refine ev_ite (fun h5 => ?_) (fun h5 => ?_)
      · rw [if_neg (by omega)]; exact ev_now _
      · obtain ⟨a, rfl⟩ := Int.eq_ofNat_of_zero_le (show 0 ≤ a from by omega)
        obtain ⟨n, rfl⟩ := Int.eq_ofNat_of_zero_le (show 0 ≤ n from by omega)
        rw [if_pos ⟨h1, by omega, by omega, by omega, by omega⟩, Int.toNat_natCast, Int.toNat_natCast]
        exact ev_bind (tb_impl l hb a n (by omega) (by omega) n a 0 rfl) (ev_now _)
  · rw [if_neg (fun h => h1 h.1)]
    exact ev_now _
theorem take_spec (l : List Int) (hb : ∀ x ∈ l, 0 ≤ x ∧ x < 256) (hl : l.length ≤ 1048576) (z a n : Int) (hz : -9223372036854775808 ≤ z ∧ z ≤ 9223372036854775807) : Ev (fun k => spec_TakeBits.f k l z a n) (tbv l z a n) := by
  unfold spec_TakeBits.f tbv
  refine ev_bind (goodBits_spec l hb hl z hz) (ev_ite (fun h1 => ?_) (fun h1 => ?_))
  · obtain ⟨z0, z1, zl⟩ := goodB_parts h1
    have no : ∀ b : Bool, b = true → Ev (fun k => spec_l1Take.j0 k a n b l z) (0, false) := fun b h => ev_step (fun _ => spec_l1Take.j0.eq_2 ..) (ev_pos h (ev_now _))
    have key : Ev (fun k => spec_l1Take.f k l z a n) (if goodB l z = true ∧ 0 ≤ a ∧ 0 ≤ n ∧ n ≤ 64 ∧ a + n ≤ z then (wrap64 (tb l n.toNat a.toNat 0), true) else (0, false)) := by
      unfold spec_l1Take.f
      refine ev_ite (fun h2 => ?_) (fun h2 => ev_ite (fun h3 => ?_) (fun h3 => ev_ite (fun h4 => ?_) (fun h4 => ev_ite (fun h5 => ?_) (fun h5 => ?_))))
      · rw [if_neg (by omega)]; exact no _ rfl
      · rw [if_neg (by omega)]; exact no _ rfl
      · rw [if_neg (by omega)]; exact no _ rfl
      · rw [if_neg (by omega)]; exact no _ rfl
      · rw [w64 (x := z - a) (by omega) (by omega)]
        by_cases h6 : n > z - a
        · rw [if_neg (by omega)]; exact no _ (decide_eq_true h6)
        · obtain ⟨a, rfl⟩ := Int.eq_ofNat_of_zero_le (show 0 ≤ a from by omega)
          obtain ⟨n, rfl⟩ := Int.eq_ofNat_of_zero_le (show 0 ≤ n from by omega)
          rw [if_pos ⟨h1, by omega, by omega, by omega, by omega⟩, decide_eq_false h6, Int.toNat_natCast, Int.toNat_natCast]
          exact ev_step (fun _ => spec_l1Take.j0.eq_2 ..) (ev_neg (by decide) (tb_spec l hb z a n (by omega) (by omega) n 0 0 (by omega)))
    exact ev_bind key (ev_now _)
  · rw [if_neg (fun h => h1 h.1)]
    exact ev_now _

end Go.Proofs.Ytjapdjkckhcelaa.U
