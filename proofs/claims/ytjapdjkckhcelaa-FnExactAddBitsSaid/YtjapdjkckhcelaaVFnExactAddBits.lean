/- Plain lemmas over the printed functions, for the law FnExactAddBits; each theorem states its own conditions. -/
import Derived.Test.YtjapdjkckhcelaaPrx0
import Derived.Test.YtjapdjkckhcelaaPrxgd801bn1
import Derived.Test.YtjapdjkckhcelaaPrxge3834n1
import Derived.Test.YtjapdjkckhcelaaPrxge3834n2
namespace Go.Proofs.Ytjapdjkckhcelaa.U
open Go.RowKit Go.Proofs.Ytjapdjkckhcelaa.Pr Go.Proofs.YtjapdjkckhcelaaW.PrintWords Go.Proofs.YtjapdjkckhcelaaW.PrintLast Go.Proofs.YtjapdjkckhcelaaW.PrintMore
set_option linter.unusedVariables false
set_option linter.unusedSimpArgs false
/-! Words for plain proofs over the printed functions: from some number of rounds on; loops that go up; ranges. -/
theorem w64 {x : Int} (h0 : -9223372036854775808 ≤ x) (h1 : x ≤ 9223372036854775807) : wrap64 x = x := by unfold wrap64; omega
theorem w64n {i n : Nat} (h : i < n) (hn : n ≤ 9223372036854775807) : wrap64 ((i : Int) + 1) = ((i + 1 : Nat) : Int) := by unfold wrap64; omega
theorem wu64 (n : Int) : IntKind.u64.wrap n = n % 18446744073709551616 := by simp [IntKind.wrap, IntKind.bits, IntKind.signed]
theorem bu64 (op : BinOp) (x y : Int) : 0 ≤ bits op .u64 x y ∧ bits op .u64 x y < 18446744073709551616 := by
  unfold bits
  simp only [wu64]
  omega
theorem bu32 (op : BinOp) (x y : Int) : 0 ≤ bits op .u32 x y ∧ bits op .u32 x y < 4294967296 := by
  unfold bits
  simp only [IntKind.wrap_u32]
  omega
theorem or_comm_ (k : IntKind) (x y : Int) : bits .or k x y = bits .or k y x := by
  simp only [bits, BitVec.or_comm]
theorem ev_now {α : Type} (r : α) : Ev (fun _ => some r) r := Ev.now r
theorem ev_eq {α : Type} {g : Option α} {r : α} (h : g = some r) : Ev (fun _ => g) r := ⟨0, fun _ _ => h⟩
theorem ev_pos {α : Type} {c : Prop} [Decidable c] {a b : Nat → Option α} {r : α} (h : c) (e : Ev a r) : Ev (fun k => if c then a k else b k) r := by
  obtain ⟨K, e⟩ := e
  exact ⟨K, fun k hk => (if_pos h).trans (e k hk)⟩
theorem ev_neg {α : Type} {c : Prop} [Decidable c] {a b : Nat → Option α} {r : α} (h : ¬ c) (e : Ev b r) : Ev (fun k => if c then a k else b k) r := by
  obtain ⟨K, e⟩ := e
  exact ⟨K, fun k hk => (if_neg h).trans (e k hk)⟩
theorem ev_ite {α : Type} {c : Prop} [Decidable c] {a b : Nat → Option α} {r : α} (h : c → Ev a r) (h' : ¬ c → Ev b r) : Ev (fun k => if c then a k else b k) r := by
  by_cases hc : c
  · exact ev_pos hc (h hc)
  · exact ev_neg hc (h' hc)
theorem ev_bind {α β : Type} {g : Nat → Option α} {f : Nat → α → Option β} {a : α} {r : β} (h : Ev g a) (k : Ev (fun n => f n a) r) : Ev (fun n => (g n).bind (f n)) r := Ev.bind h k
theorem ev_some {α β : Type} {f : Nat → α → Option β} {a : α} {r : β} (k : Ev (fun n => f n a) r) : Ev (fun n => (some a).bind (f n)) r := Ev.bind (Ev.now a) k
theorem ev_step {α : Type} {g f : Nat → Option α} {r : α} (h : ∀ k, g (k + 1) = f k) (k : Ev f r) : Ev g r := Ev.step h k
theorem ev_one {α : Type} {g : Nat → Option α} {r q : α} (h : Ev g r) (h' : Ev g q) : r = q := by
  obtain ⟨K, h⟩ := h
  obtain ⟨K', h'⟩ := h'
  exact Option.some.inj ((h (max K K') (Nat.le_max_left _ _)).symm.trans (h' _ (Nat.le_max_right _ _)))
/-- What holds at the end and goes down a round, holds at each round. -/
theorem up_ind (n : Nat) (Q : Nat → Prop) (done : Q n) (step : ∀ i, i < n → Q (i + 1) → Q i) : ∀ i, i ≤ n → Q i := by
  have key : ∀ d i, i + d = n → Q i := by
    intro d
    induction d with
    | zero =>
      intro i h
      have e : i = n := by omega
      rw [e]
      exact done
    | succ d ih => intro i h; exact step i (by omega) (ih (i + 1) (by omega))
  exact fun i h => key (n - i) i (by omega)
theorem getD_lt {α : Type} {l : List α} {d : α} {i : Nat} (h : i < l.length) : l.getD ((i : Int).toNat) d = l[i] := by
  rw [Int.toNat_natCast, List.getD_eq_getElem?_getD, List.getElem?_eq_getElem h]
  rfl
theorem rd_at {l : List Int} {i : Nat} (h : i < l.length) : rd l (i : Int) = l[i] := getD_lt h
theorem rdOf_at {α : Type} {d : α} {l : List α} {i : Nat} (h : i < l.length) : rdOf d l (i : Int) = l[i] := getD_lt h
/-- A loop that writes a row anew, element by element. -/
theorem ev_copy {α β : Type} (F : Nat → List β → Int → Option (List β)) (cv : α → β) (l : List α) (x : List β) (hx : x.length = l.length)
    (step : ∀ (i : Nat) (h : i < l.length) (y r : List β), y.length = l.length → Ev (fun k => F k (y.set i (cv l[i])) ((i + 1 : Nat) : Int)) r → Ev (fun k => F k y (i : Int)) r)
    (done : ∀ y : List β, y.length = l.length → Ev (fun k => F k y (l.length : Int)) y) : Ev (fun k => F k x 0) (l.map cv) := by
  refine up_ind l.length (fun i => ∀ y : List β, y.length = l.length → (∀ j, j < i → y[j]? = (l.map cv)[j]?) → Ev (fun k => F k y (i : Int)) (l.map cv)) ?_ ?_ 0 (by omega) x hx (fun j hj => by omega)
  · intro y hy h
    have e : y = l.map cv := by
      apply List.ext_getElem?
      intro j
      by_cases hj : j < l.length
      · exact h j hj
      · rw [List.getElem?_eq_none (by omega), List.getElem?_eq_none (by simp; omega)]
    have d := done y hy
    rw [e] at d ⊢
    exact d
  · intro i hi ih y hy h
    refine step i hi y _ hy (ih _ (by simp [hy]) (fun j hj => ?_))
    by_cases e : j = i
    · subst e
      rw [List.getElem?_set_self (by omega), List.getElem?_map, List.getElem?_eq_getElem hi]
      rfl
    · rw [List.getElem?_set_ne (Ne.symm e)]
      exact h j (by omega)

end Go.Proofs.Ytjapdjkckhcelaa.U
namespace Go.Proofs.Ytjapdjkckhcelaa.U
open Go.RowKit Go.Proofs.Ytjapdjkckhcelaa.Pr Go.Proofs.YtjapdjkckhcelaaW.PrintWords Go.Proofs.YtjapdjkckhcelaaW.PrintLast Go.Proofs.YtjapdjkckhcelaaW.PrintMore
set_option linter.unusedVariables false
set_option linter.unusedSimpArgs false
theorem xor0 {x : Int} (h0 : -9223372036854775808 ≤ x) (h1 : x ≤ 9223372036854775807) : bits .xor .i64 x 0 = x := by
  have e : BitVec.ofInt IntKind.i64.bits x ^^^ BitVec.ofInt IntKind.i64.bits 0 = BitVec.ofInt IntKind.i64.bits x := by
    rw [show BitVec.ofInt IntKind.i64.bits 0 = 0#_ from by decide, BitVec.xor_zero]
  simp only [bits, e]
  rw [IntKind.wrap_i64, BitVec.toNat_ofInt]
  show ((((x % ((2 ^ 64 : Nat) : Int)).toNat : Nat) : Int) + 9223372036854775808) % 18446744073709551616 - 9223372036854775808 = x
  omega
theorem xor1 {x : Int} (h0 : -9223372036854775808 ≤ x) (h1 : x ≤ 9223372036854775807) : bits .xor .i64 x (-1) = -x - 1 := by
  have e : BitVec.ofInt IntKind.i64.bits x ^^^ BitVec.ofInt IntKind.i64.bits (-1) = ~~~ BitVec.ofInt IntKind.i64.bits x := by
    rw [show BitVec.ofInt IntKind.i64.bits (-1) = BitVec.allOnes _ from by decide, BitVec.xor_allOnes]
  simp only [bits, e]
  rw [IntKind.wrap_i64, BitVec.toNat_not, BitVec.toNat_ofInt]
  show ((((2 ^ 64 - 1 - (x % ((2 ^ 64 : Nat) : Int)).toNat : Nat)) : Int) + 9223372036854775808) % 18446744073709551616 - 9223372036854775808 = -x - 1
  omega
theorem and1 (x : Int) : bits .and .i64 x 1 = x % 2 := by
  have e : (BitVec.ofInt IntKind.i64.bits x &&& BitVec.ofInt IntKind.i64.bits 1).toNat = (x % ((2 ^ 64 : Nat) : Int)).toNat % 2 := by
    rw [BitVec.toNat_and, show (BitVec.ofInt IntKind.i64.bits 1).toNat = 1 from by decide, Nat.and_one_is_mod, BitVec.toNat_ofInt]
    rfl
  simp only [bits, e]
  rw [IntKind.wrap_i64]
  omega

end Go.Proofs.Ytjapdjkckhcelaa.U
namespace Go.Proofs.Ytjapdjkckhcelaa.U
open Go.RowKit Go.Proofs.Ytjapdjkckhcelaa.Pr Go.Proofs.YtjapdjkckhcelaaW.PrintWords Go.Proofs.YtjapdjkckhcelaaW.PrintLast Go.Proofs.YtjapdjkckhcelaaW.PrintMore
set_option linter.unusedVariables false
set_option linter.unusedSimpArgs false
theorem toByteS (l : List Int) (hl : l.length ≤ 1048576) : Ev (fun k => laws_toByteS.f k l) (l) := by
  unfold laws_toByteS.f
  repeat (first | (with_reducible refine ev_pos (by first | omega | rfl | decide) ?_) | (with_reducible refine ev_neg (by first | omega | decide) ?_))
  have key := ev_copy (F := fun k y i => laws_toByteS.l0 k l y i) (fun x => x) l (List.replicate ((l.length : Int) : Int).toNat 0) (by simp) ?step ?done
  case step =>
    intro i h y r hy hr
    refine ev_step (fun _ => laws_toByteS.l0.eq_2 ..) ?_
    repeat (first | (with_reducible refine ev_pos (by first | omega | rfl | decide) ?_) | (with_reducible refine ev_neg (by first | omega | decide) ?_))
    rw [rd_at h, w64n h (by omega), Int.toNat_natCast]
    exact hr
  case done =>
    intro y hy
    refine ev_step (fun _ => laws_toByteS.l0.eq_2 ..) ?_
    repeat (first | (with_reducible refine ev_pos (by first | omega | rfl | decide) ?_) | (with_reducible refine ev_neg (by first | omega | decide) ?_))
    exact ev_now _
  simpa using key
theorem eqByteS (l : List Int) (hl : l.length ≤ 1048576) : Ev (fun k => laws_eqByteS.f k l l) true := by
  unfold laws_eqByteS.f
  refine ev_pos rfl ?_
  refine up_ind l.length (fun i => Ev (fun k => laws_eqByteS.l0 k l l (i : Int)) true) ?_ ?_ 0 (by omega)
  · refine ev_step (fun _ => laws_eqByteS.l0.eq_2 ..) ?_
    refine ev_neg (by omega) ?_
    exact ev_now _
  · intro i h ih
    refine ev_step (fun _ => laws_eqByteS.l0.eq_2 ..) ?_
    repeat (first | (with_reducible refine ev_pos (by first | omega | rfl | decide) ?_) | (with_reducible refine ev_neg (by first | omega | decide) ?_))
    rw [w64n h (by omega)]
    exact ih
theorem szByteS (l : List Int) (c : Int) (h0 : 0 ≤ c) (h1 : c ≤ 1048576) (hl : l.length ≤ maxLen)  : ∃ r, Ev (fun _ => laws_szByteS.f l c) r ∧ r ≤ c ∧ (0 ≤ r → l.length ≤ 1048576) := by
  simp only [maxLen] at hl
  unfold laws_szByteS.f
  rw [w64 (x := c - (l.length : Int)) (by omega) (by omega)]
  by_cases hn : c - (l.length : Int) < 0
  · exact ⟨-1, ev_pos hn (ev_now _), by omega, fun h => absurd h (by decide)⟩
  · exact ⟨_, ev_neg hn (ev_now _), by omega, fun _ => by omega⟩
theorem markByteS (l : List Int) (hl : l.length ≤ 1048576) (c : Int) (h0 : 0 < c) (h1 : c ≤ 4611686018427387904) : ∃ y c', Ev (fun k => laws_markByteS.f k l c) (c', y) ∧ Ev (fun k => laws_heldByteS.f k y c) c' ∧ c ≤ c' ∧ c' ≤ c + 1 * l.length := by
  have key := up_ind l.length (fun i => ∀ (x : List Int) (c : Int), x.length = l.length → 0 < c → c + 1 * (l.length - i : Nat) ≤ 9000000000000000000 → ∃ y c', Ev (fun k => laws_markByteS.l0 k x c (i : Int)) (c', y) ∧ Ev (fun k => laws_heldByteS.l0 k y c (i : Int)) c' ∧ y.length = l.length ∧ (∀ j, j < i → y[j]? = x[j]?) ∧ c ≤ c' ∧ c' ≤ c + 1 * (l.length - i : Nat)) ?d ?s 0 (by omega) l c rfl h0 (by omega)
  case d =>
    intro x c hx h0 h1
    refine ⟨x, c, ev_step (fun _ => laws_markByteS.l0.eq_2 ..) (ev_neg (by omega) (ev_now _)), ev_step (fun _ => laws_heldByteS.l0.eq_2 ..) (ev_neg (by omega) (ev_now _)), hx, fun _ _ => rfl, by omega, by omega⟩
  case s =>
    intro i h ih x c hx h0 h1
    obtain ⟨y, c', e1, e2, hy, hj, q1, q2⟩ := ih (x.set i (c % 256)) (c + 1) (by simp [hx]) (by omega) (by omega)
    refine ⟨y, c', ev_step (fun _ => laws_markByteS.l0.eq_2 ..) ?_, ev_step (fun _ => laws_heldByteS.l0.eq_2 ..) ?_, hy, fun j h' => ?_, by omega, by omega⟩
    · repeat (first | (with_reducible refine ev_pos (by first | omega | rfl | decide) ?_) | (with_reducible refine ev_neg (by first | omega | decide) ?_))
      rw [w64 (x := c + 1) (by omega) (by omega), w64n h (by omega), Int.toNat_natCast]
      exact e1
    · repeat (first | (with_reducible refine ev_pos (by first | omega | rfl | decide) ?_) | (with_reducible refine ev_neg (by first | omega | decide) ?_))
      have ey : rd y (i : Int) = (c % 256) := by
        have := hj i (by omega)
        rw [List.getElem?_set_self (by omega), List.getElem?_eq_getElem (by omega)] at this
        rw [rd_at (by omega)]
        exact Option.some.inj this
      rw [ey]
      refine ev_pos rfl ?_
      rw [w64 (x := c + 1) (by omega) (by omega), w64n h (by omega)]
      exact e2
    · rw [hj j (by omega), List.getElem?_set_ne (by omega)]
  obtain ⟨y, c', e1, e2, _, _, q1, q2⟩ := key
  exact ⟨y, c', e1, e2, q1, by omega⟩

end Go.Proofs.Ytjapdjkckhcelaa.U
namespace Go.Proofs.Ytjapdjkckhcelaa.U
open Go.RowKit Go.Proofs.Ytjapdjkckhcelaa.Pr Go.Proofs.YtjapdjkckhcelaaW.PrintWords Go.Proofs.YtjapdjkckhcelaaW.PrintLast Go.Proofs.YtjapdjkckhcelaaW.PrintMore
set_option linter.unusedVariables false
set_option linter.unusedSimpArgs false
def bitAt (l : List Int) (i : Nat) : Int := rd l ((i / 8 : Nat) : Int) / 2 ^ (7 - i % 8) % 2
theorem wu8 (n : Int) : IntKind.u8.wrap n = n % 256 := IntKind.wrap_u8 n
theorem byte_at {l : List Int} (hb : ∀ x ∈ l, 0 ≤ x ∧ x < 256) (j : Int) : 0 ≤ rd l j ∧ rd l j < 256 := by
  unfold rd
  rw [List.getD_eq_getElem?_getD]
  cases h : l[j.toNat]? with
  | none => simp
  | some x => exact hb x (List.mem_of_getElem? h)
theorem shr_u8 {x : Int} {d : Nat} (hd : d ≤ 8) : shr .u8 x (IntKind.u64.wrap (wrap64 (d : Int))) = x / 2 ^ d := by
  unfold shr
  rw [w64 (by omega) (by omega), wu64, show (d : Int) % 18446744073709551616 = d from by omega, Int.toNat_natCast, show min d IntKind.u8.bits = d from by show min d 8 = d; omega]
theorem l1Bit_at (l : List Int) (hb : ∀ x ∈ l, 0 ≤ x ∧ x < 256) (z : Int) (i : Nat) (h : i / 8 < l.length) (hi : i ≤ 9000000000000000000) : spec_l1Bit.f l z (i : Int) = some (bitAt l i) := by
  unfold spec_l1Bit.f bitAt
  have e1 : wrap64 (Int.tdiv (i : Int) 8) = ((i / 8 : Nat) : Int) := by rw [Int.tdiv_eq_ediv_of_nonneg (by omega), w64 (by omega) (by omega)]; omega
  have e2 : (7 : Int) - Int.tmod (i : Int) 8 = ((7 - i % 8 : Nat) : Int) := by rw [Int.tmod_eq_emod_of_nonneg (by omega)]; omega
  rw [e1, e2, if_pos (by omega), if_pos (by omega), if_pos (by rw [wu64]; omega), shr_u8 (by omega), and1]
  have hy := byte_at hb ((i / 8 : Nat) : Int)
  have hp : (0 : Int) < 2 ^ (7 - i % 8) := Int.pow_pos (by decide)
  have h0 : 0 ≤ rd l ((i / 8 : Nat) : Int) / 2 ^ (7 - i % 8) := Int.ediv_nonneg hy.1 (Int.le_of_lt hp)
  have h1 : rd l ((i / 8 : Nat) : Int) / 2 ^ (7 - i % 8) ≤ rd l ((i / 8 : Nat) : Int) := Int.ediv_le_self _ hy.1
  rw [w64 (by omega) (by omega)]
/-- Bits that are 0, d of them from i on. -/
def az (l : List Int) : Nat → Nat → Bool
  | 0, _ => true
  | d + 1, i => decide (bitAt l i = 0) && az l d (i + 1)
def zr (b : Int) : Nat → Bool
  | 0 => true
  | d + 1 => decide (b / 2 ^ d % 2 = 0) && zr b d
theorem zr_dec : ∀ b : Fin 256, ∀ s : Fin 8, zr ((b.val : Nat) : Int) (8 - s.val) = decide ((((b.val : Nat) : Int) * 2 ^ s.val) % 256 = 0) := by decide +kernel
theorem zr_eq {b : Int} (h0 : 0 ≤ b) (h1 : b < 256) {s : Nat} (hs : s < 8) : zr b (8 - s) = decide ((b * 2 ^ s) % 256 = 0) := by
  have h := zr_dec ⟨b.toNat, by omega⟩ ⟨s, hs⟩
  simp only [show ((b.toNat : Nat) : Int) = b from by omega] at h
  exact h
theorem az_zr (l : List Int) (n : Nat) : ∀ d j, j + d = 8 → az l d (8 * n + j) = zr (rd l (n : Int)) d := by
  intro d
  induction d with
  | zero => intros; rfl
  | succ d ih =>
    intro j hj
    simp only [az, zr]
    rw [show 8 * n + j + 1 = 8 * n + (j + 1) from by omega, ih (j + 1) (by omega)]
    unfold bitAt
    rw [show (8 * n + j) / 8 = n from by omega, show 7 - (8 * n + j) % 8 = d from by omega]
def goodB (l : List Int) (z : Int) : Bool := decide (0 ≤ z) && decide (z ≤ 80000) && decide ((l.length : Int) = (z + 7) / 8) && (decide (z % 8 = 0) || decide ((rd l ((l.length : Int) - 1) * 2 ^ (z % 8).toNat) % 256 = 0))
theorem goodBits_impl (l : List Int) (hl : l.length ≤ 9223372036854775807) (z : Int) (hz : -9223372036854775808 ≤ z ∧ z ≤ 9223372036854775807) : impl_GoodBits.f l z = some (goodB l z) := by
  unfold impl_GoodBits.f goodB
  by_cases h0 : z < 0
  · rw [if_pos h0, decide_eq_false (by omega)]
    simp
  · rw [if_neg h0, decide_eq_true (by omega)]
    by_cases h1 : z > 80000
    · rw [if_pos h1, decide_eq_false (show ¬ z ≤ 80000 from by omega)]
      simp
    · have e : wrap64 (Int.tdiv (wrap64 (z + 7)) 8) = (z + 7) / 8 := by rw [w64 (x := z + 7) (by omega) (by omega), Int.tdiv_eq_ediv_of_nonneg (by omega), w64 (by omega) (by omega)]
      rw [if_neg h1, decide_eq_true (show z ≤ 80000 from by omega), e]
      by_cases h2 : (l.length : Int) = (z + 7) / 8
      · rw [if_pos h2, decide_eq_true h2, Int.tmod_eq_emod_of_nonneg (by omega)]
        by_cases h3 : z % 8 = 0
        · rw [if_pos h3, decide_eq_true h3]
          simp
        · rw [if_neg h3, decide_eq_false h3, w64 (x := (l.length : Int) - 1) (by omega) (by omega), if_pos (by omega), if_pos (by omega), if_pos (by omega)]
          have es : shl .u8 (rd l ((l.length : Int) - 1)) (z % 8) = (rd l ((l.length : Int) - 1) * 2 ^ (z % 8).toNat) % 256 := by
            unfold shl
            rw [wu8, show min (z % 8).toNat IntKind.u8.bits = (z % 8).toNat from by show min _ 8 = _; omega]
          rw [es]
          simp
          rfl
      · rw [if_neg h2, decide_eq_false h2]
        simp
theorem goodBits_l (l : List Int) (hb : ∀ x ∈ l, 0 ≤ x ∧ x < 256) (hl : l.length ≤ 1048576) (z : Int) : ∀ d i, i + d = 8 * l.length → Ev (fun k => spec_GoodBits.l0 k (i : Int) l z) (az l d i) := by
  intro d
  induction d with
  | zero =>
    intro i hi
    have e : wrap64 (8 * (l.length : Int)) = 8 * l.length := w64 (by omega) (by omega)
    refine ev_step (fun _ => spec_GoodBits.l0.eq_2 ..) ?_
    rw [e]
    exact ev_neg (by omega) (ev_now _)
  | succ d ih =>
    intro i hi
    have e : wrap64 (8 * (l.length : Int)) = 8 * l.length := w64 (by omega) (by omega)
    refine ev_step (fun _ => spec_GoodBits.l0.eq_2 ..) ?_
    rw [e]
    refine ev_pos (by omega) (ev_bind (ev_eq (l1Bit_at l hb z i (by omega) (by omega))) ?_)
    simp only [az]
    by_cases hz : bitAt l i = 0
    · rw [decide_eq_true hz, Bool.true_and, w64n (show i < 8 * l.length from by omega) (by omega)]
      exact ev_pos hz (ih (i + 1) (by omega))
    · rw [decide_eq_false hz, Bool.false_and]
      exact ev_neg hz (ev_now _)
theorem goodBits_spec (l : List Int) (hb : ∀ x ∈ l, 0 ≤ x ∧ x < 256) (hl : l.length ≤ 1048576) (z : Int) (hz : -9223372036854775808 ≤ z ∧ z ≤ 9223372036854775807) : Ev (fun k => spec_GoodBits.f k l z) (goodB l z) := by
  unfold spec_GoodBits.f goodB
  by_cases h0 : z < 0
  · rw [decide_eq_false (show ¬ 0 ≤ z from by omega)]
    exact ev_pos h0 (ev_step (fun _ => spec_GoodBits.j0.eq_2 ..) (ev_pos rfl (ev_now _)))
  · rw [decide_eq_true (show 0 ≤ z from by omega)]
    refine ev_neg h0 ?_
    by_cases h1 : z > 80000
    · rw [decide_eq_false (show ¬ z ≤ 80000 from by omega)]
      exact ev_pos h1 (ev_step (fun _ => spec_GoodBits.j0.eq_2 ..) (ev_pos rfl (ev_now _)))
    · have e : wrap64 (Int.tdiv (wrap64 (z + 7)) 8) = (z + 7) / 8 := by rw [w64 (x := z + 7) (by omega) (by omega), Int.tdiv_eq_ediv_of_nonneg (by omega), w64 (by omega) (by omega)]
      rw [decide_eq_true (show z ≤ 80000 from by omega), e]
      refine ev_neg h1 (ev_step (fun _ => spec_GoodBits.j0.eq_2 ..) ?_)
      by_cases h2 : (l.length : Int) = (z + 7) / 8
      · rw [decide_eq_true h2]
        refine ev_neg (by simp [h2]) ?_
        obtain ⟨m, rfl⟩ := Int.eq_ofNat_of_zero_le (show 0 ≤ z from by omega)
        have hloop := goodBits_l l hb hl (m : Int) (8 * l.length - m) m (by omega)
        by_cases h3 : (m : Int) % 8 = 0
        · rw [decide_eq_true h3]
          rw [show 8 * l.length - m = 0 from by omega] at hloop
          exact hloop
        · rw [decide_eq_false h3, Bool.false_or, Bool.true_and, Bool.true_and, Bool.true_and]
          have e4 : az l (8 * l.length - m) m = zr (rd l ((l.length - 1 : Nat) : Int)) (8 - m % 8) := by
            have := az_zr l (l.length - 1) (8 - m % 8) (m % 8) (by omega)
            rw [← this]
            congr 1
            · omega
            · omega
          rw [e4, zr_eq (byte_at hb _).1 (byte_at hb _).2 (by omega)] at hloop
          rw [show ((m : Int) % 8).toNat = m % 8 from by omega, show ((l.length : Int) - 1) = ((l.length - 1 : Nat) : Int) from by omega]
          exact hloop
      · rw [decide_eq_false h2]
        exact ev_pos (by simp [h2]) (ev_now _)
theorem toBits (l : List Int) (hl : l.length ≤ 1048576) (z : Int) : Ev (fun k => laws_toBits.f k l z) (l, z) := by
  unfold laws_toBits.f
  exact ev_bind (toByteS l hl) (ev_now _)
theorem eqBits (l : List Int) (hl : l.length ≤ 1048576) (z : Int) : Ev (fun k => laws_eqBits.f k l z l z) true := by
  unfold laws_eqBits.f
  exact ev_bind (eqByteS l hl) (ev_pos rfl (ev_pos rfl (ev_now _)))
theorem szBits (l : List Int) (hm : l.length ≤ maxLen) (z : Int) : ∃ r, laws_szBits.f l z 1048576 = some r ∧ (0 ≤ r → l.length ≤ 1048576) := by
  simp only [maxLen] at hm
  unfold laws_szBits.f laws_szByteS.f
  rw [w64 (x := 1048576 - (l.length : Int)) (by omega) (by omega)]
  by_cases h : 1048576 - (l.length : Int) < 0
  · rw [if_pos h]
    exact ⟨-1, rfl, by omega⟩
  · rw [if_neg h]
    exact ⟨_, by simp only [Option.bind_some]; rw [if_neg h], fun _ => by omega⟩

end Go.Proofs.Ytjapdjkckhcelaa.U
namespace Go.Proofs.Ytjapdjkckhcelaa.U
open Go.RowKit Go.Proofs.Ytjapdjkckhcelaa.Pr Go.Proofs.YtjapdjkckhcelaaW.PrintWords Go.Proofs.YtjapdjkckhcelaaW.PrintLast Go.Proofs.YtjapdjkckhcelaaW.PrintMore
set_option linter.unusedVariables false
set_option linter.unusedSimpArgs false
def bitOf (v : Int) (n : Nat) : Bool := decide (bits .and .u64 (shr .u64 (IntKind.u64.wrap v) (n : Int)) 1 = 1)
/-- The row with room for the next bit. -/
def roomB (l : List Int) (z : Int) : List Int := if z % 8 = 0 then l ++ [0] else l
/-- One bit laid behind. -/
def putB (l : List Int) (z : Int) (b : Bool) : List Int × Int := (if b = true then (roomB l z).set (z / 8).toNat (bits .or .u8 (rd (roomB l z) (z / 8)) (shr .u8 128 (z % 8))) else roomB l z, z + 1)
def addL : Nat → Int → List Int × Int → List Int × Int
  | 0, _, s => s
  | n + 1, v, s => addL n v (putB s.1 s.2 (bitOf v n))
theorem room_len {l : List Int} {z : Int} (h0 : 0 ≤ z) (hl : (l.length : Int) = (z + 7) / 8) : ((roomB l z).length : Int) = z / 8 + 1 := by
  unfold roomB
  split
  · rw [List.length_append, List.length_singleton]; omega
  · omega
theorem putB_len {l : List Int} {z : Int} (b : Bool) (h0 : 0 ≤ z) (hl : (l.length : Int) = (z + 7) / 8) : ((putB l z b).1.length : Int) = (z + 1 + 7) / 8 := by
  have := room_len h0 hl
  unfold putB
  cases b
  · simp only [Bool.false_eq_true, if_false]; omega
  · simp only [if_true, List.length_set]; omega
theorem put_spec (l : List Int) (z a : Int) (h0 : 0 ≤ z) (h1 : z ≤ 100000) (hl : (l.length : Int) = (z + 7) / 8) : spec_l1Put.f l z a = some (putB l z (decide (a = 1))) := by
  have rl := room_len h0 hl
  unfold spec_l1Put.f
  rw [Int.tmod_eq_emod_of_nonneg h0, Int.tdiv_eq_ediv_of_nonneg h0, w64 (x := z / 8) (by omega) (by omega), w64 (x := z + 1) (by omega) (by omega), wu64, show z % 8 % 18446744073709551616 = z % 8 from by omega]
  by_cases h : z % 8 = 0
  · have e : roomB l z = l ++ [0] := if_pos h
    rw [e] at rl
    rw [if_pos h, if_pos (by omega), Option.bind_some]
    by_cases ha : a = 1
    · rw [if_pos ha, if_pos (by omega), if_pos (by omega), if_pos (by omega), decide_eq_true ha]
      unfold putB
      rw [if_pos rfl, e]
    · rw [if_neg ha, decide_eq_false ha]
      unfold putB
      rw [if_neg (by decide), e]
  · have e : roomB l z = l := if_neg h
    rw [e] at rl
    rw [if_neg h]
    by_cases ha : a = 1
    · rw [if_pos ha, if_pos (by omega), if_pos (by omega), if_pos (by omega), decide_eq_true ha]
      unfold putB
      rw [if_pos rfl, e]
    · rw [if_neg ha, decide_eq_false ha]
      unfold putB
      rw [if_neg (by decide), e]
theorem add_impl_l (v : Int) : ∀ (n : Nat) (l : List Int) (z : Int), n ≤ 64 → 0 ≤ z → z + n ≤ 100000 → (l.length : Int) = (z + 7) / 8 → Ev (fun k => impl_AddBits.l0 k v ((n : Int) - 1) l z) (addL n v (l, z)) := by
  intro n
  induction n with
  | zero => intro l z _ _ _ _; exact ev_step (fun _ => impl_AddBits.l0.eq_2 ..) (ev_neg (by omega) (ev_now _))
  | succ n ih =>
    intro l z hn h0 h1 hl
    have rl := room_len h0 hl
    rw [show ((n + 1 : Nat) : Int) - 1 = (n : Int) from by omega]
    refine ev_step (fun _ => impl_AddBits.l0.eq_2 ..) (ev_pos (by omega) ?_)
    rw [Int.tmod_eq_emod_of_nonneg h0, Int.tdiv_eq_ediv_of_nonneg h0, w64 (x := z / 8) (by omega) (by omega), w64 (x := z + 1) (by omega) (by omega), w64 (x := (n : Int) - 1) (by omega) (by omega)]
    show Ev _ (addL n v (putB l z (bitOf v n)))
    have key : Ev (fun k => if 0 ≤ (n : Int) then (if bits .and .u64 (shr .u64 (IntKind.u64.wrap v) (n : Int)) 1 = 1 then (if 0 ≤ z / 8 then (if z / 8 < ((roomB l z).length : Int) then (if 0 ≤ z % 8 then (impl_AddBits.l0 k v ((n : Int) - 1) ((roomB l z).set (z / 8).toNat (bits .or .u8 (rd (roomB l z) (z / 8)) (shr .u8 128 (z % 8)))) (z + 1)) else none) else none) else none) else (impl_AddBits.l0 k v ((n : Int) - 1) (roomB l z) (z + 1))) else none) (addL n v (putB l z (bitOf v n))) := by
      have ih2 := fun b => ih (putB l z b).1 (z + 1) (by omega) (by omega) (by omega) (putB_len b h0 hl)
      refine ev_pos (by omega) (ev_ite (fun hb => ?_) (fun hb => ?_))
      · rw [show bitOf v n = true from decide_eq_true hb]
        exact ev_pos (by omega) (ev_pos (by omega) (ev_pos (by omega) (ih2 true)))
      · rw [show bitOf v n = false from decide_eq_false hb]
        exact ih2 false
    refine ev_ite (fun h => ?_) (fun h => ?_)
    · rw [show roomB l z = l ++ [0] from if_pos h] at key rl
      rw [List.length_append, List.length_singleton] at rl
      exact ev_pos (by omega) (ev_some key)
    · rw [show roomB l z = l from if_neg h] at key
      exact key
theorem and1_u64 {x : Int} (h0 : 0 ≤ x) (h1 : x < 18446744073709551616) : bits .and .u64 x 1 = x % 2 := bits_mask .u64 64 (by decide) (fun n h₀ h₁ => by rw [wu64]; omega) 1 (by decide) x h0 h1
theorem add_spec_l (v : Int) : ∀ (n : Nat) (l : List Int) (z : Int), n ≤ 64 → 0 ≤ z → z + n ≤ 100000 → (l.length : Int) = (z + 7) / 8 → Ev (fun k => spec_l1Add.l0 k v ((n : Int) - 1) l z) (addL n v (l, z)) := by
  intro n
  induction n with
  | zero => intro l z _ _ _ _; exact ev_step (fun _ => spec_l1Add.l0.eq_2 ..) (ev_neg (by omega) (ev_now _))
  | succ n ih =>
    intro l z hn h0 h1 hl
    rw [show ((n + 1 : Nat) : Int) - 1 = (n : Int) from by omega]
    have hw : IntKind.u64.wrap (n : Int) = (n : Int) := by rw [wu64]; omega
    have hv : 0 ≤ IntKind.u64.wrap v ∧ IntKind.u64.wrap v < 18446744073709551616 := by rw [wu64]; omega
    have hp : (0 : Int) < 2 ^ min ((n : Int).toNat) IntKind.u64.bits := Int.pow_pos (by decide)
    have s0 : 0 ≤ shr .u64 (IntKind.u64.wrap v) (n : Int) := Int.ediv_nonneg hv.1 (Int.le_of_lt hp)
    have s1 : shr .u64 (IntKind.u64.wrap v) (n : Int) ≤ IntKind.u64.wrap v := Int.ediv_le_self _ hv.1
    have ha := and1_u64 s0 (by omega)
    refine ev_step (fun _ => spec_l1Add.l0.eq_2 ..) (ev_pos (by omega) ?_)
    rw [hw, w64 (x := bits .and .u64 (shr .u64 (IntKind.u64.wrap v) (n : Int)) 1) (by omega) (by omega), w64 (x := (n : Int) - 1) (by omega) (by omega)]
    refine ev_pos (by omega) (ev_bind (ev_eq (put_spec l z _ h0 (by omega) hl)) ?_)
    exact ih (putB l z (bitOf v n)).1 (z + 1) (by omega) (by omega) (by omega) (putB_len _ h0 hl)
/-- What AddBits tells. -/
def addV (l : List Int) (z v n : Int) : List Int × Int := if goodB l z = true ∧ 0 ≤ n ∧ n ≤ 64 ∧ z + n ≤ 80000 then addL n.toNat v (l, z) else ([], 0)
theorem goodB_parts_ {l : List Int} {z : Int} (h : goodB l z = true) : 0 ≤ z ∧ z ≤ 80000 ∧ (l.length : Int) = (z + 7) / 8 := by
  unfold goodB at h
  simp only [Bool.and_eq_true, decide_eq_true_eq] at h
  exact ⟨h.1.1.1, h.1.1.2, h.1.2⟩
theorem addL_len (v : Int) : ∀ (n : Nat) (l : List Int) (z : Int), 0 ≤ z → (l.length : Int) = (z + 7) / 8 → ((addL n v (l, z)).1.length : Int) = (z + n + 7) / 8 := by
  intro n
  induction n with
  | zero => intro l z _ hl; show (l.length : Int) = _; omega
  | succ n ih =>
    intro l z h0 hl
    have := ih (putB l z (bitOf v n)).1 (z + 1) (by omega) (putB_len _ h0 hl)
    show ((addL n v (putB l z (bitOf v n))).1.length : Int) = _
    rw [show ((n + 1 : Nat) : Int) = (n : Int) + 1 from by omega, show z + ((n : Int) + 1) + 7 = z + 1 + n + 7 from by omega]
    exact this
theorem addV_len (l : List Int) (z v n : Int) : (addV l z v n).1.length ≤ 1048576 := by
  unfold addV
  split
  · rename_i h
    obtain ⟨g0, g1, g2⟩ := goodB_parts_ h.1
    have := addL_len v n.toNat l z g0 g2
    omega
  · simp
theorem addBits_impl (l : List Int) (hl : l.length ≤ 1048576) (z v n : Int) (hz : -9223372036854775808 ≤ z ∧ z ≤ 9223372036854775807) (hn : -9223372036854775808 ≤ n ∧ n ≤ 9223372036854775807) : Ev (fun k => impl_AddBits.f k l z v n) (addV l z v n) := by
  unfold impl_AddBits.f addV
  refine ev_bind (ev_eq (goodBits_impl l (by omega) z hz)) (ev_ite (fun h1 => ?_) (fun h1 => ?_))
  · obtain ⟨g0, g1, g2⟩ := goodB_parts_ h1
    refine ev_ite (fun h2 => ?_) (fun h2 => ev_ite (fun h3 => ?_) (fun h3 => ?_))
    · rw [if_neg (by omega)]
      exact ev_step (fun _ => impl_AddBits.j0.eq_2 ..) (ev_pos rfl (ev_now _))
    · rw [if_neg (by omega)]
      exact ev_step (fun _ => impl_AddBits.j0.eq_2 ..) (ev_pos rfl (ev_now _))
    · rw [w64 (x := z + n) (by omega) (by omega)]
      refine ev_step (fun _ => impl_AddBits.j0.eq_2 ..) (ev_ite (fun h4 => ?_) (fun h4 => ?_))
      · rw [decide_eq_true_eq] at h4
        rw [if_neg (by omega)]
        exact ev_now _
      · rw [decide_eq_true_eq] at h4
        rw [if_pos ⟨h1, by omega, by omega, by omega⟩, w64 (x := (l.length : Int) + 9) (by omega) (by omega), w64 (x := n - 1) (by omega) (by omega)]
        refine ev_pos (by omega) (ev_pos (by omega) (ev_some (ev_pos (by rw [List.length_nil]; omega) ?_)))
        have key := add_impl_l v n.toNat l z (by omega) g0 (by omega) g2
        rw [Int.toNat_of_nonneg (by omega)] at key
        rw [List.nil_append]
        exact key
  · rw [if_neg (fun h => h1 h.1)]
    exact ev_step (fun _ => impl_AddBits.j0.eq_2 ..) (ev_pos rfl (ev_now _))
theorem addBits_spec (l : List Int) (hb : ∀ x ∈ l, 0 ≤ x ∧ x < 256) (hl : l.length ≤ 1048576) (z v n : Int) (hz : -9223372036854775808 ≤ z ∧ z ≤ 9223372036854775807) (hn : -9223372036854775808 ≤ n ∧ n ≤ 9223372036854775807) : Ev (fun k => spec_AddBits.f k l z v n) (addV l z v n) := by
  unfold spec_AddBits.f addV
  refine ev_bind (goodBits_spec l hb hl z hz) (ev_ite (fun h1 => ?_) (fun h1 => ?_))
  · obtain ⟨g0, g1, g2⟩ := goodB_parts_ h1
    refine ev_ite (fun h2 => ?_) (fun h2 => ev_ite (fun h3 => ?_) (fun h3 => ?_))
    · rw [if_neg (by omega)]; exact ev_now _
    · rw [if_neg (by omega)]; exact ev_now _
    · rw [w64 (x := z + n) (by omega) (by omega)]
      refine ev_ite (fun h4 => ?_) (fun h4 => ev_pos (by rw [List.length_nil]; omega) ?_)
      · rw [if_neg (by omega)]; exact ev_now _
      · rw [if_pos ⟨h1, by omega, by omega, by omega⟩, List.nil_append]
        have key := add_spec_l v n.toNat l z (by omega) g0 (by omega) g2
        rw [Int.toNat_of_nonneg (by omega)] at key
        unfold spec_l1Add.f
        rw [w64 (x := n - 1) (by omega) (by omega)]
        exact ev_bind key (ev_now _)
  · rw [if_neg (fun h => h1 h.1)]
    exact ev_now _
theorem markBits (l : List Int) (hl : l.length ≤ 1048576) (z : Int) : ∃ y c', Ev (fun k => laws_markBits.f k l z 1) (c', y) ∧ Ev (fun k => laws_heldBits.f k y z 1) c' ∧ 1 ≤ c' := by
  obtain ⟨y, c', m, h, a, _⟩ := markByteS l hl 1 (by omega) (by omega)
  refine ⟨y, c', ?_, ?_, a⟩
  · unfold laws_markBits.f; exact ev_bind m (ev_now _)
  · unfold laws_heldBits.f; exact ev_bind h (ev_neg (by omega) (ev_now _))

end Go.Proofs.Ytjapdjkckhcelaa.U
