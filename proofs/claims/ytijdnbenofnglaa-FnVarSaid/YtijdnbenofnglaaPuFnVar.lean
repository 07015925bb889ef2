/- The plain statement of the law FnVar: for all arguments in range it answers true; no further condition. -/
import Derived.Test.YtijdnbenofnglaaPrx9
import Derived.Test.YtijdnbenofnglaaUB
import Derived.Test.YtijdnbenofnglaaUX
import Derived.Test.YtijdnbenofnglaaUZZ
import Derived.Test.YtijdnbenofnglaaUUZZ
import Derived.Test.YtijdnbenofnglaaUPV
import Derived.Test.YtijdnbenofnglaaUTK
import Derived.Test.YtijdnbenofnglaaWFFnVar
namespace Go.Proofs.Ytijdnbenofnglaa.PuFnVar
open Go.RowKit Go.Proofs.Ytijdnbenofnglaa.Pr Go.Proofs.YtijdnbenofnglaaW.PrintWords Go.Proofs.YtijdnbenofnglaaW.PrintLast Go.Proofs.YtijdnbenofnglaaW.PrintMore Go.Proofs.Ytijdnbenofnglaa.U Go.Proofs.Ytijdnbenofnglaa.WFFnVar
set_option linter.unusedVariables false
set_option linter.unusedSimpArgs false

theorem pv_back (L : List Int) (hb : ∀ x ∈ L, 0 ≤ x ∧ x < 256) (a : Int) (h0 : 0 ≤ a) (x : Int) (hx0 : 0 ≤ x) (hx : x < 18446744073709551616) (d : Nat) :
    ∀ (v r : Int) (i : Nat), i + d = 9 → 0 ≤ r → v + r * 2 ^ (7 * i) = x → (0 < i → 1 ≤ r) → 0 ≤ v → (∀ j, j < (pv d r).length → L[a.toNat + i + j]? = (pv d r)[j]?) →
      tk L a (d + 1) v i = (wrap64 x, a + i + (pv d r).length) := by
  induction d with
  | zero =>
    intro v r i hi hr0 hr hr1 hv0 hL
    have hp : (2 : Int) ^ (7 * i) = 9223372036854775808 := by rw [show i = 9 from by omega]; decide
    have e0 := hL 0 (by simp [pv])
    simp only [pv, List.getElem?_cons_zero] at e0
    have hlt := (List.getElem?_eq_some_iff.1 e0).1
    have er : rd L (a + i) = r := by
      unfold rd
      rw [List.getD_eq_getElem?_getD, show (a + (i : Int)).toNat = a.toNat + i + 0 from by omega, e0]
      rfl
    rw [hp] at hr
    simp only [tk, pv]
    rw [if_pos (by omega), er, if_neg (by omega), if_pos (by omega), if_neg (by omega), hp, hr]
    rfl
  | succ d ih =>
    intro v r i hi hr0 hr hr1 hv0 hL
    have hp : (0 : Int) < 2 ^ (7 * i) := Int.pow_pos (by decide)
    by_cases hbig : 128 ≤ r
    · have epv : pv (d + 1) r = (r % 128 + 128) :: pv d (r / 128) := by simp only [pv]; rw [if_pos hbig]
      rw [epv] at hL ⊢
      have e0 := hL 0 (by simp)
      simp only [List.getElem?_cons_zero] at e0
      have hlt := (List.getElem?_eq_some_iff.1 e0).1
      have er : rd L (a + i) = r % 128 + 128 := by
        unfold rd
        rw [List.getD_eq_getElem?_getD, show (a + (i : Int)).toNat = a.toNat + i + 0 from by omega, e0]
        rfl
      rw [tk]
      rw [if_pos (by omega), er, if_neg (by omega), if_neg (by omega), show (r % 128 + 128) % 128 = r % 128 from by omega]
      rw [ih (v + r % 128 * 2 ^ (7 * i)) (r / 128) (i + 1) (by omega) (by omega) ?_ (by omega) ?_ ?_]
      · simp only [List.length_cons, Prod.mk.injEq, true_and]
        omega
      · rw [← hr, show 7 * (i + 1) = 7 * i + 7 from by omega, Int.pow_add, Int.add_assoc]
        congr 1
        have h1 : r = r % 128 + r / 128 * 128 := by omega
        generalize (2 : Int) ^ (7 * i) = p at *
        rw [show (2 : Int) ^ 7 = 128 from by decide]
        calc r % 128 * p + r / 128 * (p * 128) = (r % 128 + r / 128 * 128) * p := by rw [Int.add_mul, Int.mul_assoc, Int.mul_comm 128 p]
          _ = r * p := by rw [← h1]
      · have := Int.mul_nonneg (show 0 ≤ r % 128 from by omega) (Int.le_of_lt hp)
        omega
      · intro j hj
        have := hL (j + 1) (by simp; omega)
        rw [List.getElem?_cons_succ] at this
        rw [← this]
        congr 1
        omega
    · have epv : pv (d + 1) r = [r] := by simp only [pv]; rw [if_neg hbig]
      rw [epv] at hL ⊢
      have e0 := hL 0 (by simp)
      simp only [List.getElem?_cons_zero] at e0
      have hlt := (List.getElem?_eq_some_iff.1 e0).1
      have er : rd L (a + i) = r := by
        unfold rd
        rw [List.getD_eq_getElem?_getD, show (a + (i : Int)).toNat = a.toNat + i + 0 from by omega, e0]
        rfl
      rw [tk]
      rw [if_pos (by omega), er, if_neg (by omega), if_pos (by omega), if_neg (by omega), hr]
      rfl
theorem put_take (l : List Int) (hb : ∀ x ∈ l, 0 ≤ x ∧ x < 256) (hl : l.length ≤ 9000000000000000000) (n : Int) : tkv (l ++ pv 9 (n % 18446744073709551616) ++ [7]) (l.length : Int) = (wrap64 (n % 18446744073709551616), (l.length : Int) + (pv 9 (n % 18446744073709551616)).length) := by
  have hp := pv_byte 9 (n % 18446744073709551616) (by omega) (Int.lt_trans (b := 18446744073709551616) (by omega) (by decide))
  have hn := (pv_len 9 (n % 18446744073709551616)).1
  unfold tkv
  rw [if_neg (by simp; omega)]
  rw [pv_back (l ++ pv 9 (n % 18446744073709551616) ++ [7]) (fun x hx => ?_) (l.length : Int) (by omega) (n % 18446744073709551616) (by omega) (by omega) 9 0 (n % 18446744073709551616) 0 (by omega) (by omega) (by simp) (by omega) (by omega) (fun j hj => ?_)]
  · simp
  · simp only [List.mem_append, List.mem_singleton] at hx
    rcases hx with (hx | hx) | rfl
    · exact hb x hx
    · exact hp x hx
    · omega
  · rw [List.append_assoc, List.getElem?_append_right (by omega), List.getElem?_append_left (by omega)]
    congr 1
    omega
theorem uzz_zzw {n : Int} (h0 : -9223372036854775808 ≤ n) (h1 : n ≤ 9223372036854775807) : uzz (zzw n) = n := by
  unfold uzz zzw zz wrap64
  split <;> split <;> omega
theorem zzw_uzz {n : Int} (h0 : -9223372036854775808 ≤ n) (h1 : n ≤ 9223372036854775807) : zzw (uzz n) = n := by
  unfold uzz zzw zz wrap64
  split <;> split <;> omega
theorem uzz_in (n : Int) : -9223372036854775808 ≤ uzz n ∧ uzz n ≤ 9223372036854775807 := by
  unfold uzz
  split <;> omega
theorem bi64 (op : BinOp) (x y : Int) : -9223372036854775808 ≤ bits op .i64 x y ∧ bits op .i64 x y ≤ 9223372036854775807 := by
  unfold bits
  simp only [IntKind.wrap_i64]
  omega
theorem zbyte (l : List Int) (a : Int) (h0 : 0 ≤ a) : ∃ b, laws_zByte.f l a = some b := by
  unfold laws_zByte.f
  by_cases h : a < (l.length : Int)
  · rw [if_pos h, if_pos h0]
    exact ⟨_, rfl⟩
  · rw [if_neg h]
    exact ⟨_, rfl⟩
theorem zint_l (l : List Int) (d : Nat) : ∀ (k : Nat) (x : Int) (i : Nat), i + d = 8 → d < k → -9223372036854775808 ≤ x → x ≤ 9223372036854775807 → ∃ r, laws_zInt.l0 k l 1 x (i : Int) = some r ∧ -9223372036854775808 ≤ r ∧ r ≤ 9223372036854775807 := by
  induction d with
  | zero =>
    intro k x i h1 h2 h3 h4
    obtain ⟨k, rfl⟩ : ∃ m, k = m + 1 := ⟨k - 1, by omega⟩
    simp only [laws_zInt.l0]
    rw [if_neg (by omega)]
    exact ⟨x, rfl, h3, h4⟩
  | succ d ih =>
    intro k x i h1 h2 h3 h4
    obtain ⟨k, rfl⟩ : ∃ m, k = m + 1 := ⟨k - 1, by omega⟩
    simp only [laws_zInt.l0]
    rw [if_pos (by omega), w64 (x := 1 + (i : Int)) (by omega) (by omega), w64 (x := (i : Int) + 1) (by omega) (by omega)]
    obtain ⟨b, hb⟩ := zbyte l (1 + (i : Int)) (by omega)
    rw [hb]
    simp only [Option.bind_some]
    rw [show ((i : Int) + 1) = ((i + 1 : Nat) : Int) from by omega]
    exact ih k _ (i + 1) (by omega) (by omega) (bi64 _ _ _).1 (bi64 _ _ _).2
theorem shr_in {x : Int} (h0 : -9223372036854775808 ≤ x) (h1 : x ≤ 9223372036854775807) (y : Int) : -9223372036854775808 ≤ shr .i64 x y ∧ shr .i64 x y ≤ 9223372036854775807 := by
  unfold shr
  generalize min y.toNat IntKind.i64.bits = m
  have hp : (0 : Int) < 2 ^ m := Int.pow_pos (by decide)
  constructor
  · exact (Int.le_ediv_iff_mul_le hp).2 (by generalize (2 : Int) ^ m = p at *; omega)
  · exact Int.le_trans (Int.ediv_le_ediv hp h1) (Int.ediv_le_self _ (by decide))
theorem pure : Pure := by
  intro l ⟨hm, hb⟩
  refine ⟨50, ?_⟩
  unfold laws_FnVar.f
  by_cases hn : (l.length : Int) > 1048576
  · rw [if_pos hn]
  · rw [if_neg hn]
    obtain ⟨n0, e1, r0, r1⟩ := zint_l l 8 50 0 0 (by omega) (by omega) (by omega) (by omega)
    have e1' : laws_zInt.f 50 l 1 = some n0 := e1
    obtain ⟨b, e2⟩ := zbyte l 0 (by omega)
    simp only [e1', e2, Option.bind_some]
    rw [if_pos (by rw [wu64]; omega)]
    obtain ⟨i0, i1⟩ := shr_in r0 r1 (IntKind.u64.wrap (Int.tmod b 64))
    generalize shr .i64 n0 (IntKind.u64.wrap (Int.tmod b 64)) = n at *
    obtain ⟨p1, p2⟩ := pv_len 9 (n % 18446744073709551616)
    have hp := pv_byte 9 (n % 18446744073709551616) (by omega) (Int.lt_trans (b := 18446744073709551616) (by omega) (by decide))
    simp only [impl_put n 50 (by omega), Option.bind_some, List.nil_append]
    rw [if_pos (by first | omega | (simp; omega)), if_pos (by first | omega | (simp; omega)), if_pos (by first | omega | (simp; omega))]
    rw [impl_take _ _ (fun x hx => ?_) (by simp; omega) 50 (by omega), put_take l hb (by omega) n]
    · simp only [Option.bind_some]
      rw [if_pos (by unfold wrap64; omega), if_pos (w64 (by omega) (by omega)).symm, if_pos (by omega), if_pos (by omega), impl_zz i0 i1]
      simp only [Option.bind_some, impl_uzz]
      rw [if_pos (uzz_zzw i0 i1), impl_zz (uzz_in n).1 (uzz_in n).2]
      simp [zzw_uzz i0 i1]
    · simp only [List.mem_append, List.mem_singleton] at hx
      rcases hx with (hx | hx) | rfl
      · exact hb x hx
      · exact hp x hx
      · omega

end Go.Proofs.Ytijdnbenofnglaa.PuFnVar
