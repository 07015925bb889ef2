/- For every input the law FnExactPutVar answers true: the plain statement over numbers and lists that the printed functions leave; no further condition. -/
import Derived.Test.YtijdnbenofnglaaPFnExactPutVarx1
namespace Go.Proofs.Ytijdnbenofnglaa.Pure
open Go.RowKit Go.Proofs.Ytijdnbenofnglaa.PFnExactPutVar Go.Proofs.YtijdnbenofnglaaW.PrintWords Go.Proofs.YtijdnbenofnglaaW.PrintLast Go.Proofs.YtijdnbenofnglaaW.PrintMore
set_option linter.unusedVariables false
set_option linter.unusedSimpArgs false

theorem w64 {x : Int} (h0 : -9223372036854775808 ≤ x) (h1 : x ≤ 9223372036854775807) : wrap64 x = x := by unfold wrap64; omega
theorem wf64 {x : Int} (h : (Lit.int .i64 x).wf = true) : -9223372036854775808 ≤ x ∧ x ≤ 9223372036854775807 := by
  simp [Lit.wf, IntKind.min, IntKind.max, IntKind.bits, IntKind.signed] at h
  omega
theorem wu64 (n : Int) : IntKind.u64.wrap n = n % 18446744073709551616 := by simp [IntKind.wrap, IntKind.bits, IntKind.signed]
theorem bu64 (op : BinOp) (x y : Int) : 0 ≤ bits op .u64 x y ∧ bits op .u64 x y < 18446744073709551616 := by
  unfold bits
  simp only [wu64]
  omega
theorem bu32 (op : BinOp) (x y : Int) : 0 ≤ bits op .u32 x y ∧ bits op .u32 x y < 4294967296 := by
  unfold bits
  simp only [IntKind.wrap_u32]
  omega
theorem or_comm_ (k : IntKind) (x y : Int) : bits .or k x y = bits .or k y x := by
  simp only [bits, BitVec.or_comm]
theorem eqByteS_l (x : List Int) (hn : x.length ≤ 1048576) (d : Nat) : ∀ (k : Nat) (i : Nat), i + d = x.length → d < k → laws_eqByteS.l0 k x x (i : Int) = some true := by
  induction d with
  | zero =>
    intro k i h1 h2
    obtain ⟨k, rfl⟩ : ∃ m, k = m + 1 := ⟨k - 1, by omega⟩
    simp only [laws_eqByteS.l0]
    rw [if_neg (by omega)]
  | succ d ih =>
    intro k i h1 h2
    obtain ⟨k, rfl⟩ : ∃ m, k = m + 1 := ⟨k - 1, by omega⟩
    simp only [laws_eqByteS.l0]
    rw [if_pos (by omega), if_pos (by omega), if_pos (by omega), if_pos trivial, w64 (by omega) (by omega), show ((i : Int) + 1) = ((i + 1 : Nat) : Int) from by omega]
    exact ih k (i + 1) (by omega) (by omega)
theorem eqByteS_f (x : List Int) (hn : x.length ≤ 1048576) (k : Nat) (hk : x.length < k) : laws_eqByteS.f k x x = some true := by
  unfold laws_eqByteS.f
  rw [if_pos rfl]
  exact eqByteS_l x hn x.length k 0 (by omega) hk
/-- A number's bytes, seven bits each, the lowest first. -/
def pv : Nat → Int → List Int
  | 0, x => [x]
  | d + 1, x => if 128 ≤ x then (x % 128 + 128) :: pv d (x / 128) else [x]
theorem pv_len (d : Nat) : ∀ x, 1 ≤ (pv d x).length ∧ (pv d x).length ≤ d + 1 := by
  induction d with
  | zero => intro x; simp [pv]
  | succ d ih =>
    intro x
    simp only [pv]
    split
    · have := ih (x / 128)
      simp only [List.length_cons]
      omega
    · simp
theorem pv_byte (d : Nat) : ∀ x, 0 ≤ x → x < 128 ^ (d + 1) → ∀ y ∈ pv d x, 0 ≤ y ∧ y < 256 := by
  induction d with
  | zero => intro x h0 h1 y hy; simp [pv] at hy; simp at h1; omega
  | succ d ih =>
    intro x h0 h1 y hy
    rw [Int.pow_succ] at h1
    simp only [pv] at hy
    split at hy
    · rcases List.mem_cons.1 hy with rfl | hy
      · omega
      · generalize (128 : Int) ^ (d + 1) = p at *
        exact ih (x / 128) (by omega) (by omega) y hy
    · simp at hy
      omega
theorem or128 {x : Int} (h0 : 0 ≤ x) : bits .or .u8 (x % 256) 128 = x % 128 + 128 := by
  have key : ∀ y : Fin 256, bits .or .u8 ((y.val : Nat) : Int) 128 = ((y.val % 128 + 128 : Nat) : Int) := by decide +kernel
  have h := key ⟨(x % 256).toNat, by omega⟩
  simp only at h
  rw [show (((x % 256).toNat : Nat) : Int) = x % 256 from by omega] at h
  rw [h]
  omega
theorem impl_pv (d : Nat) : ∀ (k : Nat) (x : Int) (acc : List Int), 0 ≤ x → x < 128 ^ (d + 1) → d < k → acc.length + d < 140737488355328 → impl_PutVar.l0 k x acc = some (acc ++ pv d x) := by
  induction d with
  | zero =>
    intro k x acc h0 h1 h2 h3
    obtain ⟨k, rfl⟩ : ∃ m, k = m + 1 := ⟨k - 1, by omega⟩
    simp at h1
    simp only [impl_PutVar.l0, pv]
    rw [if_neg (by omega), if_pos (by omega), show x % 256 = x from by omega]
  | succ d ih =>
    intro k x acc h0 h1 h2 h3
    obtain ⟨k, rfl⟩ : ∃ m, k = m + 1 := ⟨k - 1, by omega⟩
    rw [Int.pow_succ] at h1
    simp only [impl_PutVar.l0, pv]
    by_cases h : 128 ≤ x
    · rw [if_pos h, if_pos (by omega), if_pos h, or128 h0, ih k (x / 128) _ (by omega) (by generalize (128 : Int) ^ (d + 1) = p at *; omega) (by omega) (by simp; omega)]
      simp
    · rw [if_neg h, if_pos (by omega), if_neg h, show x % 256 = x from by omega]
theorem impl_put (n : Int) (k : Nat) (hk : 9 < k) : impl_PutVar.f k n = some (pv 9 (n % 18446744073709551616)) := by
  unfold impl_PutVar.f
  rw [wu64, impl_pv 9 k _ _ (by omega) (Int.lt_trans (b := 18446744073709551616) (by omega) (by decide)) hk (by simp)]
  rfl
theorem mark_l (d : Nat) : ∀ (k : Nat) (x : List Int) (c : Int) (i : Nat), i + d = x.length → d < k → 0 ≤ c → c + d ≤ 9000000000000000000 → x.length ≤ 1000000000000000000 →
    ∃ y, laws_markByteS.l0 k x c (i : Int) = some (c + d, y) ∧ y.length = x.length ∧ (∀ j, j < i → y[j]? = x[j]?) ∧ ∀ j, i ≤ j → j < x.length → y[j]? = some ((c + (j - i : Nat)) % 256) := by
  induction d with
  | zero =>
    intro k x c i h1 h2 h3 h4 h5
    obtain ⟨k, rfl⟩ : ∃ m, k = m + 1 := ⟨k - 1, by omega⟩
    refine ⟨x, ?_, rfl, fun _ _ => rfl, fun j h h' => by omega⟩
    simp only [laws_markByteS.l0]
    rw [if_neg (by omega)]
    simp
  | succ d ih =>
    intro k x c i h1 h2 h3 h4 h5
    obtain ⟨k, rfl⟩ : ∃ m, k = m + 1 := ⟨k - 1, by omega⟩
    obtain ⟨y, hy, hl, ha, hb⟩ := ih k (x.set i (c % 256)) (c + 1) (i + 1) (by simp; omega) (by omega) (by omega) (by omega) (by simp; omega)
    refine ⟨y, ?_, by simpa using hl, fun j hj => ?_, fun j hj hj' => ?_⟩
    · simp only [laws_markByteS.l0]
      rw [if_pos (by omega), if_pos (by omega), w64 (by omega) (by omega), w64 (by omega) (by omega), Int.toNat_natCast, show ((i : Int) + 1) = ((i + 1 : Nat) : Int) from by omega, hy]
      rw [show c + 1 + (d : Int) = c + ((d + 1 : Nat) : Int) from by omega]
    · rw [ha j (by omega), List.getElem?_set_ne (by omega)]
    · by_cases e : j = i
      · subst e
        rw [ha j (by omega), List.getElem?_set_self hj']
        simp
      · rw [hb j (by omega) (by simpa using hj')]
        congr 2
        omega
theorem held_l (d : Nat) : ∀ (k : Nat) (x : List Int) (c : Int) (i : Nat), i + d = x.length → d < k → 0 ≤ c → c + d ≤ 9000000000000000000 → x.length ≤ 1000000000000000000 →
    (∀ j, i ≤ j → j < x.length → x[j]? = some ((c + (j - i : Nat)) % 256)) → laws_heldByteS.l0 k x c (i : Int) = some (c + d) := by
  induction d with
  | zero =>
    intro k x c i h1 h2 h3 h4 h5 h6
    obtain ⟨k, rfl⟩ : ∃ m, k = m + 1 := ⟨k - 1, by omega⟩
    simp only [laws_heldByteS.l0]
    rw [if_neg (by omega)]
    simp
  | succ d ih =>
    intro k x c i h1 h2 h3 h4 h5 h6
    obtain ⟨k, rfl⟩ : ∃ m, k = m + 1 := ⟨k - 1, by omega⟩
    have e := h6 i (Nat.le_refl _) (by omega)
    simp only [laws_heldByteS.l0]
    rw [if_pos (by omega), if_pos (by omega), if_pos (by simp only [rd, Int.toNat_natCast]; rw [List.getD_eq_getElem?_getD, e]; simp), w64 (by omega) (by omega), w64 (by omega) (by omega), show ((i : Int) + 1) = ((i + 1 : Nat) : Int) from by omega]
    rw [ih k x (c + 1) (i + 1) (by omega) (by omega) (by omega) (by omega) h5 (fun j hj hj' => ?_)]
    · congr 1
      omega
    · rw [h6 j (by omega) hj']
      congr 2
      omega
theorem mark_held (x : List Int) (hx : x.length ≤ 1000000000000000000) (k : Nat) (hk : x.length < k) : ∃ y, laws_markByteS.f k x 1 = some (1 + (x.length : Int), y) ∧ laws_heldByteS.f k y 1 = some (1 + (x.length : Int)) := by
  obtain ⟨y, hy, hl, _, hb⟩ := mark_l x.length k x 1 0 (by omega) hk (by omega) (by omega) hx
  refine ⟨y, hy, ?_⟩
  have := held_l y.length k y 1 0 (by omega) (by omega) (by omega) (by omega) (by omega) (fun j h h' => hb j h (by omega))
  rw [hl] at this
  exact this
theorem spec_pv (d : Nat) : ∀ (k : Nat) (x : Int) (acc : List Int), 0 ≤ x → x < 128 ^ (d + 1) → x < 18446744073709551616 → d < k → acc.length + d < 140737488355328 → spec_PutVar.l0 k x acc = some (acc ++ pv d x) := by
  induction d with
  | zero =>
    intro k x acc h0 h1 h1' h2 h3
    obtain ⟨k, rfl⟩ : ∃ m, k = m + 1 := ⟨k - 1, by omega⟩
    simp at h1
    simp only [spec_PutVar.l0, pv]
    rw [if_neg (by omega), if_pos (by omega), show x % 256 = x from by omega]
  | succ d ih =>
    intro k x acc h0 h1 h1' h2 h3
    obtain ⟨k, rfl⟩ : ∃ m, k = m + 1 := ⟨k - 1, by omega⟩
    rw [Int.pow_succ] at h1
    simp only [spec_PutVar.l0, pv]
    by_cases h : 128 ≤ x
    · rw [if_pos h, if_pos (by omega), if_pos h, wu64, wu64, Int.tdiv_eq_ediv_of_nonneg h0, Int.tmod_eq_emod_of_nonneg h0, show x / 128 % 18446744073709551616 = x / 128 from by omega, show (x % 128 + 128) % 18446744073709551616 % 256 = x % 128 + 128 from by omega, ih k (x / 128) _ (by omega) (by generalize (128 : Int) ^ (d + 1) = p at *; omega) (by omega) (by omega) (by simp; omega)]
      simp
    · rw [if_neg h, if_pos (by omega), if_neg h, show x % 256 = x from by omega]
theorem FnExactPutVar : laws_FnExactPutVar.Pure := by
  intro n hn
  refine ⟨20, ?_⟩
  have e1 := impl_put n 20 (by omega)
  have e2 : spec_PutVar.f 20 n = some (pv 9 (n % 18446744073709551616)) := by
    unfold spec_PutVar.f
    rw [wu64, spec_pv 9 20 _ _ (by omega) (Int.lt_trans (b := 18446744073709551616) (by omega) (by decide)) (by omega) (by omega) (by simp)]
    rfl
  generalize pv 9 (n % 18446744073709551616) = L at *
  have hL : L.length ≤ 10 := by
    have := (pv_len 9 (n % 18446744073709551616)).2
    rw [impl_put n 20 (by omega)] at e1
    rw [← Option.some.inj e1]
    omega
  obtain ⟨y, h1, h2⟩ := mark_held L (by omega) 20 (by omega)
  unfold laws_FnExactPutVar.f
  simp only [e1, e2, Option.bind_some, eqByteS_f L (by omega) 20 (by omega), if_true, h1, h2]
  rw [if_neg (by omega)]
  simp
  omega

end Go.Proofs.Ytijdnbenofnglaa.Pure
