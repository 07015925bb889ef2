/- Functions of the given program as plain Lean functions, and that the machine's calls come to them; written by a program of this session; no condition but those that each theorem states. -/
import Derived.Test.YthkhflhmnjgbnaaGreatPrx0
import Derived.Test.YthkhflhmnjgbnaaGreatPrxgc64c7n2
import Derived.Test.YthkhflhmnjgbnaaGreatPrxgc64c7n4
import Derived.Test.YthkhflhmnjgbnaaGreatPrxgc64c7n5
namespace Go.Proofs.YthkhflhmnjgbnaaGreat.Pr
open Go.RowKit Go.Proofs.YthkhflhmnjgbnaaGreatW.PrintWords Go.Proofs.YthkhflhmnjgbnaaGreatW.PrintLast Go.Proofs.YthkhflhmnjgbnaaGreatW.PrintMore
attribute [local go_sem] max2_int min2_int max_two min_two max_three min_three max_four min_four   -- for this text's walks alone
set_option linter.unusedVariables false
set_option linter.unusedSimpArgs false

/-! ### impl_parts: function 104 -/
section
variable {α : Type} {d : Kd α} {e eo base g n cap : Nat} {w : World} {ok : Nat → Prop} {F : List (List α)}
/-- A row out of rows that lie apart: its head, and that it is read. -/
theorem s_row (h : Kd.S (Kd.slice e d) eo w base ok (.slice (some ⟨g, 0, none⟩) n cap) F) (i : Int) (l : List α) (h0 : 0 ≤ i) (hi : F[i.toNat]? = some l) (hp : 0 < l.length) : ∃ gi ci, w.cell? ⟨g, i.toNat, none⟩ = some (.slice (some ⟨gi, 0, none⟩) l.length ci) ∧ l.length ≤ ci ∧ d.C w (some ⟨gi, 0, none⟩) l.length l := by
  obtain ⟨hil, hl⟩ := List.getElem?_eq_some_iff.1 hi
  have hn := (Kd.S_reads' h).1
  obtain ⟨oki, c, hcl, hM, hcc, _, _, _⟩ := Kd.S_elem h [] i h0 (by omega)
  obtain ⟨v, rfl, hR⟩ := hM
  rw [List.getD_eq_getElem?_getD, hi, Option.getD_some] at hR
  obtain ⟨gi, ci, rfl, _, _, _⟩ := Kd.R_form hR hp
  have h1 := hcc 0 _ rfl
  rw [Nat.add_zero, show (Kd.slice e d).sz = 1 from rfl, Nat.mul_one] at h1
  obtain ⟨_, h2, h3⟩ := Kd.R_reads' hR
  exact ⟨gi, ci, h1, h2, h3⟩
/-- A new row laid into rows that lie apart. -/
theorem s_new {v : Value} {l : List α} (hE : d.E = []) (h : Kd.S (Kd.slice e d) eo w base (fun k => True ∧ ¬ some k = v.ownBlock) (.slice (some ⟨g, 0, none⟩) n cap) F) (hv : d.R e w base ok v l) (i : Int) (h0 : 0 ≤ i) (h1 : i < n) :
    (∃ u, w.cell? ⟨g, i.toNat, none⟩ = some u) ∧ w.frozen? ⟨g, i.toNat, none⟩ = false ∧ base ≤ g ∧ Kd.S (Kd.slice e d) eo (w.setCell ⟨g, i.toNat, none⟩ v) base (fun _ => True) (.slice (some ⟨g, 0, none⟩) n cap) (F.set i.toNat l) := by
  obtain ⟨oki, c, hcl, hM, hcc, hfr, hoki, hH⟩ := Kd.S_elem h [] i h0 h1
  obtain ⟨u, rfl, hR⟩ := hM
  have hc := hcc 0 u rfl
  rw [Nat.add_zero, show (Kd.slice e d).sz = 1 from rfl, Nat.mul_one] at hc
  have hf := hfr 0
  rw [Nat.add_zero, show (Kd.slice e d).sz = 1 from rfl, Nat.mul_one] at hf
  obtain ⟨A, cv, hve⟩ := Kd.R_slice hv
  have hs := (Kd.S_seg (okg := fun k => some k = v.ownBlock) (ok := fun _ => True) (okp := fun k => some k = v.ownBlock) (x' := l) (seg := [v]) (j := 0) hH h0 h1 (by simp [Kd.slice]) (Kd.M_row (Kd.R_tight hE hv)) (fun k hk => Or.inr hk) (fun k hk => ⟨trivial, fun he => ((Kd.S_R h).1 g rfl).2 (by rw [← he]; exact hk)⟩)).1
  rw [Nat.add_zero, show (Kd.slice e d).sz = 1 from rfl, Nat.mul_one] at hs
  exact ⟨⟨u, hc⟩, hf, Kd.S_base h g rfl, hs⟩
end
theorem h_grown {α : Type} {d : Kd α} {e base : Nat} {W w1 : World} {ok oki : Nat → Prop} {v : Value} {xs : List α} {i : Int} {c : List Value} (h : Kd.H d e W base ok v xs i oki c) {row : Option Nat} (hg : W.grownBy w1 row) (hrow : ∀ k, row = some k → oki k) : Kd.H d e w1 base ok v xs i oki c :=
  ⟨h.1, h.2.elim fun f hr => ⟨f, Kd.R_step hr (fun k hk hlt => hg.block k hlt (fun e => hk.2 (hrow k e.symm)))⟩⟩
/-- A value laid into a row of rows that lie apart. -/
theorem s_put {α : Type} {enc : α → Value} {h1 : ∀ x, (enc x).oneCell' = true} {e eo base g n cap : Nat} {w : World} {F : List (List α)} (h : Kd.S (Kd.slice e (Kd.scalar enc h1)) eo w base (fun _ => True) (.slice (some ⟨g, 0, none⟩) n cap) F) (i j : Int) (l : List α) (h0 : 0 ≤ i) (hi : F[i.toNat]? = some l) (hj0 : 0 ≤ j) (hj : j < l.length) (x : α) :
    ∃ gi ci, w.cell? ⟨g, i.toNat, none⟩ = some (.slice (some ⟨gi, 0, none⟩) l.length ci) ∧ (∃ u, w.cell? ⟨gi, j.toNat, none⟩ = some u) ∧ w.frozen? ⟨gi, j.toNat, none⟩ = false ∧ base ≤ gi ∧ (∀ (q : Nat) (y : α), l[q]? = some y → w.cell? ⟨gi, q, none⟩ = some (enc y)) ∧ Kd.S (Kd.slice e (Kd.scalar enc h1)) eo (w.setCell ⟨gi, j.toNat, none⟩ (enc x)) base (fun _ => True) (.slice (some ⟨g, 0, none⟩) n cap) (F.set i.toNat (l.set j.toNat x)) := by
  obtain ⟨hil, hl⟩ := List.getElem?_eq_some_iff.1 hi
  have hn := (Kd.S_reads' h).1
  obtain ⟨oki, c, hcl, hM, hcc, _, _, hH⟩ := Kd.S_elem h [] i h0 (by omega)
  obtain ⟨v, rfl, hR⟩ := hM
  rw [List.getD_eq_getElem?_getD, hi, Option.getD_some] at hR
  obtain ⟨gi, ci, rfl, hb, _, _⟩ := Kd.R_form hR (by omega)
  have h2 := hcc 0 _ rfl
  rw [Nat.add_zero, show (Kd.slice e (Kd.scalar enc h1)).sz = 1 from rfl, Nat.mul_one] at h2
  obtain ⟨h3, h4⟩ := Kd.R_celln x hR j hj0 hj
  obtain ⟨h5, h6⟩ := Kd.R_putg hR j x
  have h7 : (w.setCell ⟨gi, j.toNat, none⟩ (enc x)).heap = (w.setCell ⟨gi, j.toNat, none⟩ (enc x)).heap := rfl
  refine ⟨gi, ci, h2, ⟨_, h3⟩, h4, hb, fun q y hq => ?_, Kd.H_back (h_grown hH h6 (fun k hk => hR.1 k (by rw [← hk]; rfl))) (okp := oki) ?_ (fun _ hk => hk)⟩
  · obtain ⟨hql, hqy⟩ := List.getElem?_eq_some_iff.1 hq
    have h8 := (Kd.R_celln x hR (q : Int) (by omega) (by omega)).1
    rw [Int.toNat_natCast] at h8
    rw [h8, rdOf, Int.toNat_natCast, List.getD_eq_getElem?_getD, hq, Option.getD_some]
  · have h9 : (Kd.scalar enc h1).R e (w.setCell ⟨gi, j.toNat, none⟩ (enc x)) base oki (.slice (some ⟨gi, 0, none⟩) (l.set j.toNat x).length ci) (l.set j.toNat x) := by rw [List.length_set]; exact h5
    rw [List.length_set] at h9
    exact Kd.M_row h9
theorem s_over {α : Type} {d : Kd α} {e e' base : Nat} {W w1 : World} {ok : Nat → Prop} {u v : Value} {xs : List α} (h : Kd.S d e W base ok u xs) (hty : ∀ k, v.ownBlock = some k → ∃ cells, W.heap[k]? = some (.cells cells e' (0, 0))) (ht : ∀ q, q ∈ e :: d.E → q ≠ e') (hg : W.grownBy w1 v.ownBlock) : Kd.S d e w1 base ok u xs := h.elim fun f hr => ⟨f, Kd.R_over' hr hty ht hg⟩
/-- From a place on to the end: somewhere it holds; the first such place. -/
def starF (g : Nat → Bool) : Nat → Nat → Bool
  | 0, i => g i
  | d + 1, i => g i || starF g d (i + 1)
def nxtF (g : Nat → Bool) : Nat → Nat → Nat
  | 0, i => i
  | d + 1, i => if g i = true then i else nxtF g d (i + 1)
/-- Whether pieces stand for a text from a place on; and what their stars stand for. -/
def fitP (s : ByteArray) : List S119 → Nat → Bool
  | [], i => decide (i = s.size)
  | x :: a, i => if x.f2 = true then starF (fitP s a) (s.size - i) i else decide (i < s.size) && ((x.f1 || x.f0 == bt s (i : Int)) && fitP s a (i + 1))
def partP (s : ByteArray) : List S119 → Nat → List ByteArray
  | [], _ => []
  | x :: a, i => if x.f2 = true then s.extract i (nxtF (fitP s a) (s.size - i) i) :: partP s a (nxtF (fitP s a) (s.size - i) i) else partP s a (i + 1)
theorem starF_nxt (g : Nat → Bool) : ∀ (d i : Nat), starF g d i = true → i ≤ nxtF g d i ∧ nxtF g d i ≤ i + d ∧ g (nxtF g d i) = true
  | 0, i, h => ⟨Nat.le_refl _, Nat.le_refl _, h⟩
  | d + 1, i, h => by
    simp only [starF, nxtF] at h ⊢
    by_cases hg : g i = true
    · rw [if_pos hg]; exact ⟨Nat.le_refl _, by omega, hg⟩
    · rw [if_neg hg]
      rw [Bool.eq_false_iff.2 hg, Bool.false_or] at h
      have := starF_nxt g d (i + 1) h
      exact ⟨by omega, by omega, this.2.2⟩
theorem starF_on {s : ByteArray} {g : Nat → Bool} {i : Nat} (h : i < s.size) : starF g (s.size - i) i = (g i || starF g (s.size - (i + 1)) (i + 1)) := by rw [show s.size - i = (s.size - (i + 1)) + 1 from by omega]; rfl
theorem starF_end {s : ByteArray} {g : Nat → Bool} {i : Nat} (h : ¬ i < s.size) : starF g (s.size - i) i = g i := by rw [show s.size - i = 0 from by omega]; rfl
theorem fitP_nil {s : ByteArray} {l : List S119} {i k : Nat} (h : ¬ i < l.length) : fitP s (l.drop i) k = decide (k = s.size) := by rw [List.drop_eq_nil_of_le (by omega)]; rfl
theorem fitP_star {s : ByteArray} {l : List S119} {i k : Nat} (h : i < l.length) (hs : (l[i]).f2 = true) : fitP s (l.drop i) k = starF (fitP s (l.drop (i + 1))) (s.size - k) k := by rw [List.drop_eq_getElem_cons h]; simp only [fitP]; rw [if_pos hs]
theorem fitP_on {s : ByteArray} {l : List S119} {i k : Nat} (h : i < l.length) (hs : (l[i]).f2 = false) : fitP s (l.drop i) k = (decide (k < s.size) && (((l[i]).f1 || (l[i]).f0 == bt s (k : Int)) && fitP s (l.drop (i + 1)) (k + 1))) := by rw [List.drop_eq_getElem_cons h]; simp only [fitP]; rw [if_neg (by rw [hs]; decide)]
theorem partP_on {s : ByteArray} {l : List S119} {i k : Nat} (h : i < l.length) (hs : (l[i]).f2 = false) : partP s (l.drop i) k = partP s (l.drop (i + 1)) (k + 1) := by rw [List.drop_eq_getElem_cons h]; simp only [partP]; rw [if_neg (by rw [hs]; decide)]
theorem partP_star {s : ByteArray} {l : List S119} {i k : Nat} (h : i < l.length) (hs : (l[i]).f2 = true) : partP s (l.drop i) k = s.extract k (nxtF (fitP s (l.drop (i + 1))) (s.size - k) k) :: partP s (l.drop (i + 1)) (nxtF (fitP s (l.drop (i + 1))) (s.size - k) k) := by rw [List.drop_eq_getElem_cons h]; simp only [partP]; rw [if_pos hs]
/-- A row of the table. -/
def rowP (s : ByteArray) (a : List S119) : List Bool := (List.range (s.size + 1)).map (fitP s a)
theorem rowP_len (s : ByteArray) (a : List S119) : (rowP s a).length = s.size + 1 := by simp [rowP]
theorem rowP_at {s : ByteArray} {a : List S119} {k : Nat} (h : k ≤ s.size) : (rowP s a)[k]? = some (fitP s a k) := by unfold rowP; rw [List.getElem?_map, List.getElem?_range (by omega)]; rfl
/-- The table from row i on. -/
structure Tab (s : ByteArray) (l : List S119) (F : List (List Bool)) (i : Nat) : Prop where
  len : F.length = l.length + 1
  row : ∀ m, i ≤ m → m ≤ l.length → F[m]? = some (rowP s (l.drop m))
/-- The table from row i + 1 on, and row i from place k on. -/
structure TabI (s : ByteArray) (l : List S119) (F : List (List Bool)) (i k : Nat) (cur : List Bool) : Prop where
  tab : Tab s l F (i + 1)
  le : i ≤ l.length
  cu : F[i]? = some cur
  clen : cur.length = s.size + 1
  at_ : ∀ q, k ≤ q → q ≤ s.size → cur[q]? = some (fitP s (l.drop i) q)
section
variable {s : ByteArray} {l : List S119} {F : List (List Bool)} {i k : Nat} {cur : List Bool}
theorem tab_start (h : Tab s l F (i + 1)) (hi : i ≤ l.length) (row : List Bool) (hr : row.length = s.size + 1) : TabI s l (F.set i row) i (s.size + 1) row :=
  ⟨⟨by rw [List.length_set]; exact h.len, fun m h1 h2 => by rw [List.getElem?_set_ne (by omega)]; exact h.row m h1 h2⟩, hi, List.getElem?_set_self (by have := h.len; omega), hr, fun q h1 h2 => by omega⟩
theorem tab_put (h : TabI s l F i (k + 1) cur) (hk : k ≤ s.size) (b : Bool) (hb : fitP s (l.drop i) k = b) : TabI s l (F.set i (cur.set k b)) i k (cur.set k b) := by
  refine ⟨⟨by rw [List.length_set]; exact h.tab.len, fun m h1 h2 => by rw [List.getElem?_set_ne (by omega)]; exact h.tab.row m h1 h2⟩, h.le, List.getElem?_set_self (by have := h.tab.len; have := h.le; omega), by rw [List.length_set]; exact h.clen, fun q h1 h2 => ?_⟩
  by_cases e : q = k
  · subst e
    rw [List.getElem?_set_self (by have := h.clen; omega), hb]
  · rw [List.getElem?_set_ne (fun h => e h.symm)]
    exact h.at_ q (by omega) h2
theorem tab_done (h : TabI s l F i 0 cur) : Tab s l F i := by
  refine ⟨h.tab.len, fun m h1 h2 => ?_⟩
  by_cases e : m = i
  · subst e
    rw [h.cu]
    congr 1
    apply List.ext_getElem?
    intro q
    by_cases hq : q ≤ s.size
    · rw [h.at_ q (by omega) hq, rowP_at hq]
    · rw [List.getElem?_eq_none (by have := h.clen; omega), List.getElem?_eq_none (by rw [rowP_len]; omega)]
  · exact h.tab.row m (by omega) h2
theorem tab_init : Tab s l (List.replicate (l.length + 1) []) (l.length + 1) := ⟨List.length_replicate, fun m h1 h2 => by omega⟩
end
theorem int_eq {a b : Int} (h : a = b) : Value.int .i64 a = Value.int .i64 b := by rw [h]
theorem at_nat {α : Type} {l : List α} {a b : Nat} {x : Option α} (h : l[a]? = x) (e : a = b) : l[b]? = x := e ▸ h
def impl_parts.T9 : Bool × List (List Nat × List Nat) := (true, [([], []), ([], []), ([0, 1], [0, 1]), ([2], [2]), ([], []), ([], []), ([], []), ([6], [6]), ([5, 7], [5, 7]), ([8], [8]), ([9], [9]), ([9], [9]), ([10, 11, 9], [9, 10, 11]), ([12, 9], [9, 12]), ([13, 9], [9, 13]), ([14, 9, 9], [9, 14]), ([15], [15]), ([15], [15]), ([16, 17, 15], [15, 16, 17]), ([18, 15], [15, 18]), ([19, 15], [15, 19]), ([15], [15]), ([15], [15]), ([21, 22, 15], [15, 21, 22]), ([20, 23, 15], [15, 20, 23]), ([15, 24, 9], [9, 15, 24]), ([9, 25], [9, 25]), ([26, 15], [26]), ([27], [27]), ([27], [27]), ([29, 27], [27, 29]), ([28, 30, 27], [27, 28, 30]), ([31, 27], [27, 31]), ([27], [27]), ([33, 27], [27, 33]), ([32, 34, 27], [27, 32, 34]), ([35, 27], [27, 35]), ([27, 36], [27, 36]), ([3, 4, 0, 1, 2, 3, 4, 5, 6, 7, 8, 9, 10, 11, 12, 13, 14, 15, 16, 17, 18, 19, 20, 21, 22, 23, 24, 25, 26, 27, 28, 29, 30, 31, 32, 33, 34, 35, 36, 37], [3, 4]), ([38, 37, 27, 0, 1, 2, 3, 4, 5, 6, 7, 8, 9, 10, 11, 12, 13, 14, 15, 16, 17, 18, 19, 20, 21, 22, 23, 24, 25, 26, 27, 28, 29, 30, 31, 32, 33, 34, 35, 36, 37], [37, 38])])
def impl_parts.B9 : List Nat := [0, 0, 3, 7, 0, 0, 0, 64, 224, 480, 992, 992, 4064, 8160, 16352, 32736, 65504, 65504, 262112, 524256, 1048544, 65504, 65504, 6356960, 16777184, 33554400, 67108832, 134217696, 268435424, 268435424, 805306336, 2147483616, 4294967264, 268435424, 8858370016, 34359738336, 68719476704, 137438953440, 274877906943, 549755813887]
theorem impl_parts.tab9 : rtab .any (opsOf Tryz.f104 9) = impl_parts.T9 := by kernel_rfl
theorem impl_parts.bits9 : waitsOk impl_parts.T9.2 impl_parts.B9 = true := by kernel_rfl
def impl_parts.T13 : Bool × List (List Nat × List Nat) := (true, [([], []), ([], []), ([0, 1], [0, 1]), ([2], [2]), ([], []), ([], []), ([], []), ([6], [6]), ([5, 7], [5, 7]), ([8], [8]), ([], []), ([9, 10], [9, 10]), ([11], [11]), ([12], [12]), ([13], [13]), ([13], [13]), ([15, 13], [13, 15]), ([14, 16, 13], [13, 14, 16]), ([17, 13, 13], [13, 17]), ([18], [18]), ([18], [18]), ([19, 20, 18], [18, 19, 20]), ([21, 18], [18, 21]), ([18], [18]), ([23, 18], [18, 23]), ([22, 24, 18], [18, 22, 24]), ([25, 18], [18, 25]), ([18, 26, 13], [13, 18, 26]), ([13, 27], [13, 27]), ([3, 4, 0, 1, 2, 3, 4, 5, 6, 7, 8, 9, 10, 11, 12, 13, 14, 15, 16, 17, 18, 19, 20, 21, 22, 23, 24, 25, 26, 27, 28], [3, 4]), ([29, 28, 18, 0, 1, 2, 3, 4, 5, 6, 7, 8, 9, 10, 11, 12, 13, 14, 15, 16, 17, 18, 19, 20, 21, 22, 23, 24, 25, 26, 27, 28], [28, 29])])
def impl_parts.B13 : List Nat := [0, 0, 3, 7, 0, 0, 0, 64, 224, 480, 0, 2016, 4064, 8160, 16352, 16352, 49120, 131040, 262112, 524256, 524256, 2097120, 4194272, 524256, 8912864, 33554400, 67108832, 134217696, 268435424, 536870911, 1073741823]
theorem impl_parts.tab13 : rtab .any (opsOf Tryz.f104 13) = impl_parts.T13 := by kernel_rfl
theorem impl_parts.bits13 : waitsOk impl_parts.T13.2 impl_parts.B13 = true := by kernel_rfl
def impl_parts.f (l0 : List S119) (a1 : ByteArray) : Option (List ByteArray × Bool) := if l0.length ≤ 1000 then (if a1.size ≤ 1000 then (if fitP a1 l0 0 = true then some (partP a1 l0 0, true) else some ([], false)) else none) else none
set_option maxHeartbeats 32000000 in
set_option maxRecDepth 100000 in
theorem impl_parts.calls (A0 : Option Addr) (c0 : Nat) (l0 : List S119) (a1 : ByteArray) (r1 : List ByteArray) (r2 : Bool) (w : World) (hr0 : Kd.C k119 w A0 l0.length l0) (hc0 : l0.length ≤ c0) (h : impl_parts.f l0 a1 = some (r1, r2)) :
    Calls Tryz.prog 104 #[.slice A0 l0.length c0, .string a1] w fun e w' => ∃ v0_ : Value, e = .returned (.tuple #[v0_, .bool r2]) ∧ Kd.R Kd.string 9 w' w.heap.size (fun _ => True) v0_ r1 ∧ Below w.heap.size w w' := by
  have hu := Tryz.underlying119
  have iB : (Tryz.prog.info? 4).map (fun i => (i.zero, i.size, i.bytes)) = some (some (.bool false), 1, 1) := by kernel_rfl
  have iR : (Tryz.prog.info? 116).map (fun i => (i.zero, i.size, i.bytes)) = some (some (.slice none 0 0), 1, 24) := by kernel_rfl
  have iT : (Tryz.prog.info? 9).map (fun i => (i.zero, i.size, i.bytes)) = some (some (.string ⟨#[]⟩), 1, 16) := by kernel_rfl
  have HR0 := am_ hr0
  clear hr0
  have HB := am_ (Below.refl w.heap.size w)
  unfold impl_parts.f at h
  by_cases z1 : l0.length ≤ 1000
  · rw [if_pos z1] at h
    by_cases z2 : a1.size ≤ 1000
    · rw [if_pos z2] at h
      have HZ := am_ (And.intro z1 z2)
      have HF := am_ h
      obtain ⟨jl, hjl⟩ : ∃ j_ : Int, wrap64 ((l0.length : Int) + 1) = j_ := ⟨_, rfl⟩
      have hjlw : IntKind.i64.wrap ((l0.length : Int) + 1) = jl := (i64_w _).trans hjl
      have HJL := am_ (show jl = (l0.length : Int) + 1 by rw [← hjl]; unfold wrap64; omega)
      obtain ⟨js, hjs⟩ : ∃ j_ : Int, wrap64 ((a1.size : Int) + 1) = j_ := ⟨_, rfl⟩
      have hjsw : IntKind.i64.wrap ((a1.size : Int) + 1) = js := (i64_w _).trans hjs
      have HJS := am_ (show js = (a1.size : Int) + 1 by rw [← hjs]; unfold wrap64; omega)
      obtain ⟨nF, hnF⟩ : ∃ n_ : Nat, (List.replicate (l0.length + 1) ([] : List Bool)).length = n_ := ⟨_, rfl⟩
      have HNF := am_ (show nF = l0.length + 1 by rw [← hnF, List.length_replicate])
      obtain ⟨nS, hnS⟩ : ∃ n_ : Nat, (List.replicate (a1.size + 1) false).length = n_ := ⟨_, rfl⟩
      have HNF2 := am_ hnF
      have HNS2 := am_ hnS
      have HJN := am_ (show jl.toNat = l0.length + 1 by have := HJL.out; omega)
      have HJM := am_ (show js.toNat = a1.size + 1 by have := HJS.out; omega)
      clear h z1 z2 hnF hnS
      go_enter Tryz.func104, Tryz.ntmps104
      go_wp2_with (first | ((with_reducible refine gate_dst (N := 17) rfl ?_); refine Kd.S_make (Kd.slice 4 Kd.bool) _ 116 rfl (N := 17) rfl 127 _ _ rfl jl rfl rfl Tryz.underlying127 (.slice none 0 0) 24 iR rfl (by decide) (by omega) ([] : List Bool) (ok := fun _ => True) (okp := fun _ => True) ⟨_, rfl, Kd.R_nil _ _ _ _ _⟩ (fun _ hk => hk) trivial (by have h1_ := HJL.out; omega) (by have h1_ := HJN.out; have h2_ := HZ.out; omega) (Below.refl _ _) (Nat.le_refl _) ?_; intro v17 w17 ho hb hg_ hnew_; clear hg_ hnew_; rw [HJN.out] at ho; obtain ⟨gF, cF, eF, hz1_, hz2_, hz3_⟩ := Kd.S_form ho (by simp); rw [HNF2.out] at eF; subst eF; have n0_ := am_ (Kd.S_lower ho (below_size bl_)); have n1_ := am_ (below_step bl_ hb); clear HB; have HS := n0_; have HB := n1_; clear n0_ n1_ ho hb hz1_ hz2_ hz3_))
      go_loopg [7] (l0.length + 1) (fun gg v7 w' => ∃ (F : List (List Bool)) (i : Nat), v7 = .int .i64 ((i : Int) - 1) ∧ Aside0 (i ≤ l0.length + 1 ∧ i ≤ gg) ∧ Aside0 (Tab a1 l0 F i) ∧ Aside0 (Kd.S (Kd.slice 4 Kd.bool) 116 w' w.heap.size (fun _ => True) (.slice (some ⟨gF, 0, none⟩) nF cF) F) ∧ Aside0 (Below w.heap.size w w'))
      case atStart => exact ⟨List.replicate (l0.length + 1) [], l0.length + 1, int_eq (by omega), ⟨by omega, Nat.le_refl _⟩, ⟨tab_init⟩, ⟨sq_ HS⟩, ⟨bl_⟩⟩
      case round =>
        clear HS HB
        obtain ⟨F, i, e7, HL, HT, HS, HB⟩ := hrel
        obtain ⟨I, hI⟩ : ∃ I : Int, (i : Int) - 1 = I := ⟨_, rfl⟩
        rw [hI] at e7
        subst e7
        cases i with
        | succ i =>
          have HI := am_ (show (i : Int) = I by omega)
          have c0 : 0 ≤ I := by omega
          have c0b : decide (0 ≤ I) = true := decide_eq_true c0
          have HLI := am_ (show i ≤ l0.length by have := HL.out; omega)
          have HIT := am_ (show I.toNat = i by omega)
          have p5 := eq_true c0
          have q5 : (I < (nF : Int)) = True := eq_true (by have h1_ := HNF.out; have h2_ := HLI.out; omega)
          clear c0 hI
          go_wp2_with (first | ((with_reducible refine gate_dst (N := 29) rfl ?_); refine Kd.R_make Kd.bool _ 4 rfl (N := 29) rfl 116 _ _ rfl js rfl rfl Tryz.underlying116 (.bool false) 1 iB rfl (by decide) (by omega) false (ok := fun _ => True) (okp := fun _ => True) rfl (fun _ hk => hk) trivial (by have h1_ := HJS.out; omega) (by have h1_ := HJM.out; have h2_ := HZ.out; omega) (Below.refl _ _) (Nat.le_refl _) ?_; intro v29 w29 ho hb hg_ hnew_; clear hg_; rw [HJM.out] at ho; have hs_ := Kd.S_elder' (show Kd.S (Kd.slice 4 Kd.bool) 116 _ w.heap.size (fun _ => True) (.slice (some ⟨gF, 0, none⟩) nF cF) F from sq_ HS) (fun k_ hk => hnew_.elim fun b_ h_ => by rw [h_.1] at hk; injection hk with hk; omega) hb; clear hnew_; obtain ⟨g29, c29, e29, hz1_, hz2_, hz3_⟩ := Kd.R_form ho (by simp); rw [HNS2.out] at e29; subst e29; clear hz1_ hz2_ hz3_; obtain ⟨⟨u5, hx5⟩, hf5, hb5, hS5⟩ := s_new rfl hs_ (Kd.R_lower ho (below_size bl_)) I (of_eq_true p5) (of_eq_true q5); have n0_ := am_ hS5; have n1_ := am_ (below_step bl_ hb); have n2_ := am_ hb5; clear HS HB; have HS5 := n0_; have HB := n1_; have HGE := n2_; clear n0_ n1_ n2_ hS5 hb5 hs_ ho hb) | ((with_reducible refine gate_store (t := 116) (p := 30) rfl ?_); refine store_event (t := 116) (p := 30) (v := ?vo_30) (w1 := (w29.setCell ⟨gF, I.toNat, none⟩ (.slice (some ⟨g29, 0, none⟩) nS c29))) ?hg ?ho ?hn ?hr ?_; (case ho => rfl); (case hg => rfl); (case hn => rfl); (case hr => first | (go_simp; done) | (go_simp; rfl)); intro w30 hw; have n0_ := am_ (show Kd.S (Kd.slice 4 Kd.bool) 116 w30 w.heap.size (fun _ => True) (.slice (some ⟨gF, 0, none⟩) nF cF) (F.set I.toNat (List.replicate (a1.size + 1) false)) from by rw [hw]; exact HS5.out); have n1_ := am_ (show Below w.heap.size w w30 from by rw [hw]; exact below_set HB.out HGE.out); clear HS5 HB HGE hx5 hf5; have HS := n0_; have HB := n1_; clear n0_ n1_ hw))
          go_loopg [8] (a1.size + 1) (fun gg v8 w' => ∃ (F : List (List Bool)) (k : Nat) (cur : List Bool), v8 = .int .i64 ((k : Int) - 1) ∧ Aside0 (k ≤ a1.size + 1 ∧ k ≤ gg) ∧ Aside0 (TabI a1 l0 F i k cur) ∧ Aside0 (Kd.S (Kd.slice 4 Kd.bool) 116 w' w.heap.size (fun _ => True) (.slice (some ⟨gF, 0, none⟩) nF cF) F) ∧ Aside0 (Below w.heap.size w w'))
          case atStart => exact ⟨F.set I.toNat (List.replicate (a1.size + 1) false), a1.size + 1, _, int_eq (by omega), ⟨by omega, Nat.le_refl _⟩, ⟨by rw [HIT.out]; exact tab_start HT.out HLI.out _ (by simp)⟩, ⟨sq_ HS⟩, ⟨bl_⟩⟩
          case round =>
            clear HS HB HT F
            obtain ⟨F, k, cur, e8, HL2, HT2, HS, HB⟩ := hrel
            obtain ⟨K, hK⟩ : ∃ K : Int, (k : Int) - 1 = K := ⟨_, rfl⟩
            rw [hK] at e8
            subst e8
            cases k with
            | zero =>
              have c1b : decide (0 ≤ K) = false := decide_eq_false (by omega)
              clear hK
              go_wp2
              go_roundg i
              case measure => have := HL.out; omega
              case rel => exact ⟨F, i, int_eq (by have h1_ := HI.out; have h2_ := HLI.out; have h3_ := HZ.out; unfold wrap64; omega), ⟨by have := HLI.out; omega, Nat.le_refl _⟩, ⟨tab_done HT2.out⟩, ⟨sq_ HS⟩, ⟨bl_⟩⟩
            | succ k =>
              have HK := am_ (show (k : Int) = K by omega)
              have c1 : 0 ≤ K := by omega
              have c1b : decide (0 ≤ K) = true := decide_eq_true c1
              have HKL := am_ (show k ≤ a1.size by have := HL2.out; omega)
              have HKT := am_ (show K.toNat = k by omega)
              have p6 := eq_true c1
              have q6 : (K < (cur.length : Int)) = True := eq_true (by have h1_ := HT2.out.clen; have h2_ := HKL.out; omega)
              have HQ6 := am_ (show K < (cur.length : Int) by have h1_ := HT2.out.clen; have h2_ := HKL.out; omega)
              have HC1 := am_ c1
              have HC0 := am_ (show 0 ≤ I by have := HI.out; omega)
              have HCU := am_ (show F[I.toNat]? = some cur by rw [HIT.out]; exact HT2.out.cu)
              clear c1 hK
              obtain ⟨K1, hK1⟩ : ∃ j_ : Int, wrap64 (K + 1) = j_ := ⟨_, rfl⟩
              have hK1w : IntKind.i64.wrap (K + 1) = K1 := (i64_w _).trans hK1
              have HK1 := am_ (show K1 = ((k + 1 : Nat) : Int) by rw [← hK1]; have h1_ := HK.out; have h2_ := HKL.out; have h3_ := HZ.out; unfold wrap64; omega)
              obtain ⟨J1, hJ1⟩ : ∃ j_ : Int, wrap64 (I + 1) = j_ := ⟨_, rfl⟩
              have hJ1w : IntKind.i64.wrap (I + 1) = J1 := (i64_w _).trans hJ1
              have HJ1 := am_ (show J1 = ((i + 1 : Nat) : Int) by rw [← hJ1]; have h1_ := HI.out; have h2_ := HLI.out; have h3_ := HZ.out; unfold wrap64; omega)
              by_cases a : i = l0.length
              · have ab : (I == (l0.length : Int)) = true := beq_iff_eq.mpr (by have := HI.out; omega)
                have HA := am_ a
                clear a
                by_cases kb : k = a1.size
                · have kbb : (K == (a1.size : Int)) = true := beq_iff_eq.mpr (by have := HK.out; omega)
                  have HKB := am_ kb
                  clear kb
                  obtain ⟨gi, ci, hx1, ⟨u2, hx2⟩, hf2, hb2, hq2, hS2⟩ := s_put HS.out I K cur HC0.out HCU.out HC1.out HQ6.out true
                  have HS2 := am_ hS2
                  have HGE := am_ hb2
                  clear hS2 hb2 hq2 HS
                  go_wp2_with (first | ((with_reducible refine gate_store (t := 4) (p := 90) rfl ?_); refine store_event (t := 4) (p := 90) (v := ?vo_90) (w1 := (wr.setCell ⟨gi, K.toNat, none⟩ (.bool true))) ?hg ?ho ?hn ?hr ?_; (case ho => rfl); (case hg => rfl); (case hn => rfl); (case hr => first | (go_simp; done) | (go_simp; rfl)); intro w90 hw; have n0_ := am_ (show Kd.S (Kd.slice 4 Kd.bool) 116 w90 w.heap.size (fun _ => True) (.slice (some ⟨gF, 0, none⟩) nF cF) (F.set I.toNat (cur.set K.toNat true)) from by rw [hw]; exact HS2.out); have n1_ := am_ (show Below w.heap.size w w90 from by rw [hw]; exact below_set HB.out HGE.out); clear HS2 HB HGE hx1 hx2 hf2; have HS2 := n0_; have HB := n1_; clear n0_ n1_ hw))
                  go_roundg k
                  case measure => have := HL2.out; omega
                  case rel => exact ⟨F.set I.toNat (cur.set K.toNat true), k, cur.set K.toNat true, int_eq (by have h1_ := HK.out; have h2_ := HKL.out; have h3_ := HZ.out; unfold wrap64; omega), ⟨by have := HKL.out; omega, Nat.le_refl _⟩, ⟨by rw [HIT.out, HKT.out]; exact tab_put HT2.out HKL.out true ((fitP_nil (by have := HA.out; omega)).trans (decide_eq_true HKB.out))⟩, ⟨sq_ HS2⟩, ⟨bl_⟩⟩
                · have kbb : (K == (a1.size : Int)) = false := beq_eq_false_iff_ne.mpr (by have := HK.out; omega)
                  have HKB := am_ kb
                  clear kb
                  obtain ⟨gi, ci, hx1, ⟨u2, hx2⟩, hf2, hb2, hq2, hS2⟩ := s_put HS.out I K cur HC0.out HCU.out HC1.out HQ6.out false
                  have HS2 := am_ hS2
                  have HGE := am_ hb2
                  clear hS2 hb2 hq2 HS
                  go_wp2_with (first | ((with_reducible refine gate_store (t := 4) (p := 90) rfl ?_); refine store_event (t := 4) (p := 90) (v := ?vo_90) (w1 := (wr.setCell ⟨gi, K.toNat, none⟩ (.bool false))) ?hg ?ho ?hn ?hr ?_; (case ho => rfl); (case hg => rfl); (case hn => rfl); (case hr => first | (go_simp; done) | (go_simp; rfl)); intro w90 hw; have n0_ := am_ (show Kd.S (Kd.slice 4 Kd.bool) 116 w90 w.heap.size (fun _ => True) (.slice (some ⟨gF, 0, none⟩) nF cF) (F.set I.toNat (cur.set K.toNat false)) from by rw [hw]; exact HS2.out); have n1_ := am_ (show Below w.heap.size w w90 from by rw [hw]; exact below_set HB.out HGE.out); clear HS2 HB HGE hx1 hx2 hf2; have HS2 := n0_; have HB := n1_; clear n0_ n1_ hw))
                  go_roundg k
                  case measure => have := HL2.out; omega
                  case rel => exact ⟨F.set I.toNat (cur.set K.toNat false), k, cur.set K.toNat false, int_eq (by have h1_ := HK.out; have h2_ := HKL.out; have h3_ := HZ.out; unfold wrap64; omega), ⟨by have := HKL.out; omega, Nat.le_refl _⟩, ⟨by rw [HIT.out, HKT.out]; exact tab_put HT2.out HKL.out false ((fitP_nil (by have := HA.out; omega)).trans (decide_eq_false HKB.out))⟩, ⟨sq_ HS2⟩, ⟨bl_⟩⟩
              · have ab : (I == (l0.length : Int)) = false := beq_eq_false_iff_ne.mpr (by have := HI.out; omega)
                have hil : i < l0.length := by have := HLI.out; omega
                have HIL := am_ hil
                have hI1 : I < (l0.length : Int) := by have := HI.out; omega
                have p7 := eq_true hI1
                clear a
                obtain ⟨adP, eP, hp0, hp1, hp2⟩ := at_T119 HR0.out I HC0.out hI1
                have hrd : rd_T119 l0 I = l0[i]'hil := by show l0.getD I.toNat _ = _; rw [HIT.out, List.getD_eq_getElem?_getD, List.getElem?_eq_getElem hil]; rfl
                rw [hrd] at hp0 hp1 hp2
                cases eP
                clear hrd hI1
                obtain ⟨row1, hrow1⟩ : ∃ r_, rowP a1 (l0.drop (i + 1)) = r_ := ⟨_, rfl⟩
                have HRL := am_ (show row1.length = a1.size + 1 by rw [← hrow1]; exact rowP_len _ _)
                have HRA := am_ (show ∀ q, q ≤ a1.size → row1[q]? = some (fitP a1 (l0.drop (i + 1)) q) from fun q hq => by rw [← hrow1]; exact rowP_at hq)
                have HRF := am_ (show F[J1.toNat]? = some row1 by rw [show J1.toNat = i + 1 by have := HJ1.out; omega, HT2.out.tab.row (i + 1) (Nat.le_refl _) hil, hrow1])
                clear hrow1
                have p8 : (0 ≤ J1) = True := eq_true (by have := HJ1.out; omega)
                have q8 : (J1 < (nF : Int)) = True := eq_true (by have h1_ := HJ1.out; have h2_ := HNF.out; omega)
                have q9 : (K < (row1.length : Int)) = True := eq_true (by have h1_ := HRL.out; have h2_ := HKL.out; have h3_ := HK.out; omega)
                cases hst : (l0[i]'hil).f2 with
                | true =>
                  rw [hst] at hp2
                  have HST := am_ hst
                  clear hst
                  have hp2 := kp_ HB hp2
                  cases hb1 : fitP a1 (l0.drop (i + 1)) k with
                  | true =>
                    have HB1 := am_ hb1
                    clear hb1
                    try go_wp2
                    have n0_ := am_ (Kd.S_drew HS.out)
                    have n1_ := am_ (below_drew1 HB.out)
                    clear HS HB
                    have HS := n0_
                    have HB := n1_
                    clear n0_ n1_
                    obtain ⟨gi, ci, hx1, ⟨u2, hx2⟩, hf2, hb2, hq2, hS2⟩ := s_put HS.out I K cur HC0.out HCU.out HC1.out HQ6.out true
                    obtain ⟨g1, c1, hr1, hl1, hC1⟩ := s_row HS.out J1 row1 (of_eq_true p8) HRF.out (by have := HRL.out; omega)
                    obtain ⟨ad1, ea1, hb1⟩ := Kd.at_bool hC1 K (by first | exact HC1.out | (have := HK1.out; omega)) (by first | exact of_eq_true q9 | (have h1_ := HK1.out; have h2_ := HRL.out; have h3_ := HKS.out; omega))
                    cases ea1
                    rw [add_plain] at hb1
                    clear hC1 hl1
                    rw [show rdOf false row1 K = true from by rw [rdOf, HKT.out, List.getD_eq_getElem?_getD, HRA.out k (by first | exact HKL.out | exact HKS.out), HB1.out]; rfl] at hb1
                    have HS2 := am_ hS2
                    have HGE := am_ hb2
                    clear hS2 hb2 hq2 HS
                    refine start_ (n := 31) (S := fun w' => w'.cell? ⟨gF, I.toNat, none⟩ = some (.slice (some ⟨gi, 0, none⟩) cur.length ci) ∧ w'.cell? ⟨gF, J1.toNat, none⟩ = some (.slice (some ⟨g1, 0, none⟩) row1.length c1) ∧ w'.cell? ⟨g1, K.toNat, none⟩ = some (.bool true)) (ds := [30]) (bz 31 0) (by kernel_rfl) rfl rfl ⟨hx1, hr1, hb1⟩ (fun hHeld => ?_)
                    refine with_tabW impl_parts.tab13 impl_parts.bits13 (fun HT_ HW_ => ?_)
                    generalize wr.drew = w9 at HS2 HB hx1 hx2 hf2 hr1 hb1 hHeld ⊢
                    refine pz_ 0 97 1 ?_
                    refine pz_ 1 98 3 ?_
                    refine pz_ 2 99 7 ?_
                    refine pz_ 4 101 23 ?_
                    refine pz_ 5 102 55 ?_
                    refine pz_ 6 103 119 ?_
                    refine pz_ 7 104 247 ?_
                    refine pz_ 8 105 503 ?_
                    refine pz_ 10 107 1527 ?_
                    refine tz_ 3 100 1535 ?_
                    refine tz_ 9 106 2047 ?_
                    refine pz_ 11 108 4095 ?_
                    refine tz_ 12 109 8191 ?_
                    refine pz_ 13 110 16383 ?_
                    refine uz_ 14 111 32767 ?_
                    refine uz_ 15 112 65535 ?_
                    refine uz_ 16 113 131071 ?_
                    refine uz_ 17 114 262143 ?_
                    refine uz_ 18 115 524287 ?_
                    refine uz_ 19 116 1048575 ?_
                    refine uz_ 20 117 2097151 ?_
                    refine uz_ 21 118 4194303 ?_
                    refine uz_ 22 119 8388607 ?_
                    refine uz_ 23 120 16777215 ?_
                    refine uz_ 24 121 33554431 ?_
                    refine uz_ 25 122 67108863 ?_
                    refine uz_ 26 123 134217727 ?_
                    refine uz_ 27 124 268435455 ?_
                    refine pz_ 28 125 536870911 ?_
                    refine pz_ 29 126 1073741823 ?_
                    refine last_ (i := 30) (N := none) (bz 31 2147483647) rfl rfl (one_of HT_.out (by kernel_rfl)) (by decide) (fun K hK => ?_)
                    refine skip_ (w1 := ?_) (by rfl) rfl ?_ ?_
                    rotate_left
                    · go_simp
                      rfl
                    refine hK.out _ _ ?_
                    clear hK K
                    refine done_ (done_of HT_.out (by kernel_rfl)) ?_
                    
                    try go_wp2
                    go_roundg k
                    case measure => have := HL2.out; omega
                    case rel => exact ⟨F.set I.toNat (cur.set K.toNat true), k, cur.set K.toNat true, int_eq (by have h1_ := HK.out; have h2_ := HKL.out; have h3_ := HZ.out; unfold wrap64; omega), ⟨by have := HKL.out; omega, Nat.le_refl _⟩, ⟨by rw [HIT.out, HKT.out]; exact tab_put HT2.out HKL.out true ((fitP_star HIL.out HST.out).trans ((Decidable.em (k < a1.size)).elim (fun h_ => by rw [starF_on h_, HB1.out, Bool.true_or]) (fun h_ => by rw [starF_end h_, HB1.out])))⟩, HS2, ⟨below_set HB.out HGE.out⟩⟩
                  | false =>
                    have HB1 := am_ hb1
                    clear hb1
                    by_cases ks : k < a1.size
                    · have ksb : decide (K < (a1.size : Int)) = true := decide_eq_true (by have := HK.out; omega)
                      have HKS := am_ (show k + 1 ≤ a1.size from ks)
                      clear ks
                      have pK1 : (0 ≤ K1) = True := eq_true (by have := HK1.out; omega)
                      have qK1 : (K1 < (cur.length : Int)) = True := eq_true (by have h1_ := HK1.out; have h2_ := HT2.out.clen; have h3_ := HKS.out; omega)
                      have HCK := am_ (HT2.out.at_ (k + 1) (Nat.le_refl _) HKS.out)
                      obtain ⟨b2, hb2v⟩ : ∃ b_, fitP a1 (l0.drop i) (k + 1) = b_ := ⟨_, rfl⟩
                      rw [hb2v] at HCK
                      have HB2 := am_ hb2v
                      clear hb2v
                      try go_wp2
                      have n0_ := am_ (Kd.S_drew HS.out)
                      have n1_ := am_ (below_drew1 HB.out)
                      clear HS HB
                      have HS := n0_
                      have HB := n1_
                      clear n0_ n1_
                      obtain ⟨gi, ci, hx1, ⟨u2, hx2⟩, hf2, hb2, hq2, hS2⟩ := s_put HS.out I K cur HC0.out HCU.out HC1.out HQ6.out b2
                      obtain ⟨g1, c1, hr1, hl1, hC1⟩ := s_row HS.out J1 row1 (of_eq_true p8) HRF.out (by have := HRL.out; omega)
                      obtain ⟨ad1, ea1, hb1⟩ := Kd.at_bool hC1 K (by first | exact HC1.out | (have := HK1.out; omega)) (by first | exact of_eq_true q9 | (have h1_ := HK1.out; have h2_ := HRL.out; have h3_ := HKS.out; omega))
                      cases ea1
                      rw [add_plain] at hb1
                      clear hC1 hl1
                      rw [show rdOf false row1 K = false from by rw [rdOf, HKT.out, List.getD_eq_getElem?_getD, HRA.out k (by first | exact HKL.out | exact HKS.out), HB1.out]; rfl] at hb1
                      have hb3 := hq2 K1.toNat b2 (at_nat HCK.out (by have := HK1.out; omega))
                      have HS2 := am_ hS2
                      have HGE := am_ hb2
                      clear hS2 hb2 hq2 HS
                      refine start_ (n := 31) (S := fun w' => w'.cell? ⟨gF, I.toNat, none⟩ = some (.slice (some ⟨gi, 0, none⟩) cur.length ci) ∧ w'.cell? ⟨gF, J1.toNat, none⟩ = some (.slice (some ⟨g1, 0, none⟩) row1.length c1) ∧ w'.cell? ⟨g1, K.toNat, none⟩ = some (.bool false) ∧ w'.cell? ⟨gi, K1.toNat, none⟩ = some (.bool b2)) (ds := [30]) (bz 31 0) (by kernel_rfl) rfl rfl ⟨hx1, hr1, hb1, hb3⟩ (fun hHeld => ?_)
                      refine with_tabW impl_parts.tab13 impl_parts.bits13 (fun HT_ HW_ => ?_)
                      generalize wr.drew = w9 at HS2 HB hx1 hx2 hf2 hr1 hb1 hb3 hHeld ⊢
                      refine pz_ 0 97 1 ?_
                      refine pz_ 1 98 3 ?_
                      refine pz_ 2 99 7 ?_
                      refine pz_ 4 101 23 ?_
                      refine pz_ 5 102 55 ?_
                      refine pz_ 6 103 119 ?_
                      refine pz_ 7 104 247 ?_
                      refine pz_ 8 105 503 ?_
                      refine pz_ 10 107 1527 ?_
                      refine tz_ 3 100 1535 ?_
                      refine tz_ 9 106 2047 ?_
                      refine pz_ 11 108 4095 ?_
                      refine tz_ 12 109 8191 ?_
                      refine pz_ 13 110 16383 ?_
                      refine pz_ 14 111 32767 ?_
                      refine pz_ 15 112 65535 ?_
                      refine pz_ 16 113 131071 ?_
                      refine pz_ 17 114 262143 ?_
                      refine pz_ 18 115 524287 ?_
                      refine pz_ 19 116 1048575 ?_
                      refine pz_ 20 117 2097151 ?_
                      refine pz_ 21 118 4194303 ?_
                      refine pz_ 23 120 12582911 ?_
                      refine pz_ 24 121 29360127 ?_
                      refine tz_ 22 119 33554431 ?_
                      refine pz_ 25 122 67108863 ?_
                      refine tz_ 26 123 134217727 ?_
                      refine pz_ 27 124 268435455 ?_
                      refine pz_ 28 125 536870911 ?_
                      refine pz_ 29 126 1073741823 ?_
                      refine last_ (i := 30) (N := none) (bz 31 2147483647) rfl rfl (one_of HT_.out (by kernel_rfl)) (by decide) (fun K hK => ?_)
                      refine skip_ (w1 := ?_) (by rfl) rfl ?_ ?_
                      rotate_left
                      · go_simp
                        rfl
                      refine hK.out _ _ ?_
                      clear hK K
                      refine done_ (done_of HT_.out (by kernel_rfl)) ?_
                      
                      try go_wp2
                      go_roundg k
                      case measure => have := HL2.out; omega
                      case rel => exact ⟨F.set I.toNat (cur.set K.toNat b2), k, cur.set K.toNat b2, int_eq (by have h1_ := HK.out; have h2_ := HKL.out; have h3_ := HZ.out; unfold wrap64; omega), ⟨by have := HKL.out; omega, Nat.le_refl _⟩, ⟨by rw [HIT.out, HKT.out]; exact tab_put HT2.out HKL.out b2 ((fitP_star HIL.out HST.out).trans (by rw [starF_on (show k < a1.size from HKS.out), HB1.out, Bool.false_or, ← fitP_star HIL.out HST.out]; exact HB2.out))⟩, HS2, ⟨below_set HB.out HGE.out⟩⟩
                    · have ksb : decide (K < (a1.size : Int)) = false := decide_eq_false (by have := HK.out; omega)
                      have HKS2 := am_ ks
                      clear ks
                      try go_wp2
                      have n0_ := am_ (Kd.S_drew HS.out)
                      have n1_ := am_ (below_drew1 HB.out)
                      clear HS HB
                      have HS := n0_
                      have HB := n1_
                      clear n0_ n1_
                      obtain ⟨gi, ci, hx1, ⟨u2, hx2⟩, hf2, hb2, hq2, hS2⟩ := s_put HS.out I K cur HC0.out HCU.out HC1.out HQ6.out false
                      obtain ⟨g1, c1, hr1, hl1, hC1⟩ := s_row HS.out J1 row1 (of_eq_true p8) HRF.out (by have := HRL.out; omega)
                      obtain ⟨ad1, ea1, hb1⟩ := Kd.at_bool hC1 K (by first | exact HC1.out | (have := HK1.out; omega)) (by first | exact of_eq_true q9 | (have h1_ := HK1.out; have h2_ := HRL.out; have h3_ := HKS.out; omega))
                      cases ea1
                      rw [add_plain] at hb1
                      clear hC1 hl1
                      rw [show rdOf false row1 K = false from by rw [rdOf, HKT.out, List.getD_eq_getElem?_getD, HRA.out k (by first | exact HKL.out | exact HKS.out), HB1.out]; rfl] at hb1
                      have HS2 := am_ hS2
                      have HGE := am_ hb2
                      clear hS2 hb2 hq2 HS
                      refine start_ (n := 31) (S := fun w' => w'.cell? ⟨gF, I.toNat, none⟩ = some (.slice (some ⟨gi, 0, none⟩) cur.length ci) ∧ w'.cell? ⟨gF, J1.toNat, none⟩ = some (.slice (some ⟨g1, 0, none⟩) row1.length c1) ∧ w'.cell? ⟨g1, K.toNat, none⟩ = some (.bool false)) (ds := [30]) (bz 31 0) (by kernel_rfl) rfl rfl ⟨hx1, hr1, hb1⟩ (fun hHeld => ?_)
                      refine with_tabW impl_parts.tab13 impl_parts.bits13 (fun HT_ HW_ => ?_)
                      generalize wr.drew = w9 at HS2 HB hx1 hx2 hf2 hr1 hb1 hHeld ⊢
                      refine pz_ 0 97 1 ?_
                      refine pz_ 1 98 3 ?_
                      refine pz_ 2 99 7 ?_
                      refine pz_ 4 101 23 ?_
                      refine pz_ 5 102 55 ?_
                      refine pz_ 6 103 119 ?_
                      refine pz_ 7 104 247 ?_
                      refine pz_ 8 105 503 ?_
                      refine pz_ 10 107 1527 ?_
                      refine tz_ 3 100 1535 ?_
                      refine tz_ 9 106 2047 ?_
                      refine pz_ 11 108 4095 ?_
                      refine tz_ 12 109 8191 ?_
                      refine pz_ 13 110 16383 ?_
                      refine pz_ 14 111 32767 ?_
                      refine pz_ 15 112 65535 ?_
                      refine pz_ 16 113 131071 ?_
                      refine pz_ 17 114 262143 ?_
                      refine pz_ 18 115 524287 ?_
                      refine uz_ 19 116 1048575 ?_
                      refine uz_ 20 117 2097151 ?_
                      refine uz_ 21 118 4194303 ?_
                      refine uz_ 22 119 8388607 ?_
                      refine uz_ 23 120 16777215 ?_
                      refine uz_ 24 121 33554431 ?_
                      refine uz_ 25 122 67108863 ?_
                      refine uz_ 26 123 134217727 ?_
                      refine pz_ 27 124 268435455 ?_
                      refine pz_ 28 125 536870911 ?_
                      refine pz_ 29 126 1073741823 ?_
                      refine last_ (i := 30) (N := none) (bz 31 2147483647) rfl rfl (one_of HT_.out (by kernel_rfl)) (by decide) (fun K hK => ?_)
                      refine skip_ (w1 := ?_) (by rfl) rfl ?_ ?_
                      rotate_left
                      · go_simp
                        rfl
                      refine hK.out _ _ ?_
                      clear hK K
                      refine done_ (done_of HT_.out (by kernel_rfl)) ?_
                      
                      try go_wp2
                      go_roundg k
                      case measure => have := HL2.out; omega
                      case rel => exact ⟨F.set I.toNat (cur.set K.toNat false), k, cur.set K.toNat false, int_eq (by have h1_ := HK.out; have h2_ := HKL.out; have h3_ := HZ.out; unfold wrap64; omega), ⟨by have := HKL.out; omega, Nat.le_refl _⟩, ⟨by rw [HIT.out, HKT.out]; exact tab_put HT2.out HKL.out false ((fitP_star HIL.out HST.out).trans (by rw [starF_end HKS2.out, HB1.out]))⟩, HS2, ⟨below_set HB.out HGE.out⟩⟩
                | false =>
                  rw [hst] at hp2
                  have HST := am_ hst
                  clear hst
                  have hp2 := kp_ HB hp2
                  by_cases ks : k < a1.size
                  · have ksb : decide (K < (a1.size : Int)) = true := decide_eq_true (by have := HK.out; omega)
                    have HKS := am_ (show k + 1 ≤ a1.size from ks)
                    have hks2 : K < (a1.size : Int) := by have := HK.out; omega
                    have hx6 := bt_at a1 K
                    have q6s := eq_true hks2
                    clear ks hks2
                    have pK1 : (0 ≤ K1) = True := eq_true (by have := HK1.out; omega)
                    have qK1 : (K1 < (row1.length : Int)) = True := eq_true (by have h1_ := HK1.out; have h2_ := HRL.out; have h3_ := HKS.out; omega)
                    obtain ⟨b2, hb2v⟩ : ∃ b_, fitP a1 (l0.drop (i + 1)) (k + 1) = b_ := ⟨_, rfl⟩
                    have HB2 := am_ hb2v
                    clear hb2v
                    cases han : (l0[i]'hil).f1 with
                    | true =>
                      rw [han] at hp1
                      have HAN := am_ han
                      clear han
                      try go_wp2
                      have n0_ := am_ (Kd.S_drew HS.out)
                      have n1_ := am_ (below_drew1 HB.out)
                      clear HS HB
                      have HS := n0_
                      have HB := n1_
                      clear n0_ n1_
                      have hy1 := kp_ HB hp1
                      obtain ⟨gi, ci, hx1, ⟨u2, hx2⟩, hf2, hb2, hq2, hS2⟩ := s_put HS.out I K cur HC0.out HCU.out HC1.out HQ6.out b2
                      obtain ⟨g1, c1, hr1, hl1, hC1⟩ := s_row HS.out J1 row1 (of_eq_true p8) HRF.out (by have := HRL.out; omega)
                      obtain ⟨ad1, ea1, hb1⟩ := Kd.at_bool hC1 K1 (by first | exact HC1.out | (have := HK1.out; omega)) (by first | exact of_eq_true q9 | (have h1_ := HK1.out; have h2_ := HRL.out; have h3_ := HKS.out; omega))
                      cases ea1
                      rw [add_plain] at hb1
                      clear hC1 hl1
                      rw [show rdOf false row1 K1 = b2 from by rw [rdOf, show K1.toNat = k + 1 by have := HK1.out; omega, List.getD_eq_getElem?_getD, HRA.out (k + 1) (by first | exact HKL.out | exact HKS.out), HB2.out]; rfl] at hb1
                      have HS2 := am_ hS2
                      have HGE := am_ hb2
                      clear hS2 hb2 hq2 HS
                      refine start_ (n := 40) (S := fun w' => w'.cell? ⟨gF, I.toNat, none⟩ = some (.slice (some ⟨gi, 0, none⟩) cur.length ci) ∧ w'.cell? ⟨(adP.add (I.toNat * 3)).block, (adP.add (I.toNat * 3)).off + 1, none⟩ = some (.bool true) ∧ w'.cell? ⟨gF, J1.toNat, none⟩ = some (.slice (some ⟨g1, 0, none⟩) row1.length c1) ∧ w'.cell? ⟨g1, K1.toNat, none⟩ = some (.bool b2)) (ds := [39]) (bz 40 0) (by kernel_rfl) rfl rfl ⟨hx1, hy1, hr1, hb1⟩ (fun hHeld => ?_)
                      refine with_tabW impl_parts.tab9 impl_parts.bits9 (fun HT_ HW_ => ?_)
                      generalize wr.drew = w9 at HS2 HB hx1 hx2 hf2 hr1 hb1 hy1 hHeld ⊢
                      refine pz_ 0 37 1 ?_
                      refine pz_ 1 38 3 ?_
                      refine pz_ 2 39 7 ?_
                      refine pz_ 4 41 23 ?_
                      refine pz_ 5 42 55 ?_
                      refine pz_ 6 43 119 ?_
                      refine pz_ 7 44 247 ?_
                      refine pz_ 8 45 503 ?_
                      refine pz_ 9 46 1015 ?_
                      refine pz_ 10 47 2039 ?_
                      refine pz_ 11 48 4087 ?_
                      refine pz_ 12 49 8183 ?_
                      refine pz_ 13 50 16375 ?_
                      refine tz_ 3 40 16383 ?_
                      refine tz_ 14 51 32767 ?_
                      refine pz_ 15 52 65535 ?_
                      refine uz_ 16 53 131071 ?_
                      refine uz_ 17 54 262143 ?_
                      refine uz_ 18 55 524287 ?_
                      refine uz_ 19 56 1048575 ?_
                      refine uz_ 20 57 2097151 ?_
                      refine uz_ 21 58 4194303 ?_
                      refine uz_ 22 59 8388607 ?_
                      refine uz_ 23 60 16777215 ?_
                      refine uz_ 24 61 33554431 ?_
                      refine pz_ 25 62 67108863 ?_
                      refine pz_ 26 63 134217727 ?_
                      refine pz_ 27 64 268435455 ?_
                      refine pz_ 28 65 536870911 ?_
                      refine pz_ 29 66 1073741823 ?_
                      refine pz_ 30 67 2147483647 ?_
                      refine pz_ 31 68 4294967295 ?_
                      refine pz_ 33 70 12884901887 ?_
                      refine pz_ 34 71 30064771071 ?_
                      refine tz_ 32 69 34359738367 ?_
                      refine pz_ 35 72 68719476735 ?_
                      refine tz_ 36 73 137438953471 ?_
                      refine pz_ 37 74 274877906943 ?_
                      refine pz_ 38 75 549755813887 ?_
                      refine last_ (i := 39) (N := none) (bz 40 1099511627775) rfl rfl (one_of HT_.out (by kernel_rfl)) (by decide) (fun K hK => ?_)
                      refine skip_ (w1 := ?_) (by rfl) rfl ?_ ?_
                      rotate_left
                      · go_simp
                        rfl
                      refine hK.out _ _ ?_
                      clear hK K
                      refine done_ (done_of HT_.out (by kernel_rfl)) ?_
                      
                      try go_wp2
                      go_roundg k
                      case measure => have := HL2.out; omega
                      case rel => exact ⟨F.set I.toNat (cur.set K.toNat b2), k, cur.set K.toNat b2, int_eq (by have h1_ := HK.out; have h2_ := HKL.out; have h3_ := HZ.out; unfold wrap64; omega), ⟨by have := HKL.out; omega, Nat.le_refl _⟩, ⟨by rw [HIT.out, HKT.out]; exact tab_put HT2.out HKL.out b2 ((fitP_on HIL.out HST.out).trans (by rw [decide_eq_true (show k < a1.size from HKS.out), Bool.true_and, HAN.out, Bool.true_or, Bool.true_and, HB2.out]))⟩, HS2, ⟨below_set HB.out HGE.out⟩⟩
                    | false =>
                      rw [han] at hp1
                      have HAN := am_ han
                      clear han
                      cases hcm : ((l0[i]'hil).f0 == bt a1 K) with
                      | true =>
                        have HCM := am_ hcm
                        try go_wp2
                        have n0_ := am_ (Kd.S_drew HS.out)
                        have n1_ := am_ (below_drew1 HB.out)
                        clear HS HB
                        have HS := n0_
                        have HB := n1_
                        clear n0_ n1_
                        have hy1 := kp_ HB hp1
                        have hy0 := kp_ HB hp0
                        obtain ⟨gi, ci, hx1, ⟨u2, hx2⟩, hf2, hb2, hq2, hS2⟩ := s_put HS.out I K cur HC0.out HCU.out HC1.out HQ6.out b2
                        obtain ⟨g1, c1, hr1, hl1, hC1⟩ := s_row HS.out J1 row1 (of_eq_true p8) HRF.out (by have := HRL.out; omega)
                        obtain ⟨ad1, ea1, hb1⟩ := Kd.at_bool hC1 K1 (by first | exact HC1.out | (have := HK1.out; omega)) (by first | exact of_eq_true q9 | (have h1_ := HK1.out; have h2_ := HRL.out; have h3_ := HKS.out; omega))
                        cases ea1
                        rw [add_plain] at hb1
                        clear hC1 hl1
                        rw [show rdOf false row1 K1 = b2 from by rw [rdOf, show K1.toNat = k + 1 by have := HK1.out; omega, List.getD_eq_getElem?_getD, HRA.out (k + 1) (by first | exact HKL.out | exact HKS.out), HB2.out]; rfl] at hb1
                        have HS2 := am_ hS2
                        have HGE := am_ hb2
                        clear hS2 hb2 hq2 HS
                        refine start_ (n := 40) (S := fun w' => w'.cell? ⟨gF, I.toNat, none⟩ = some (.slice (some ⟨gi, 0, none⟩) cur.length ci) ∧ w'.cell? ⟨(adP.add (I.toNat * 3)).block, (adP.add (I.toNat * 3)).off + 1, none⟩ = some (.bool false) ∧ w'.cell? (adP.add (I.toNat * 3)) = some (.int .u8 (l0[i]'hil).f0) ∧ w'.cell? ⟨gF, J1.toNat, none⟩ = some (.slice (some ⟨g1, 0, none⟩) row1.length c1) ∧ w'.cell? ⟨g1, K1.toNat, none⟩ = some (.bool b2)) (ds := [39]) (bz 40 0) (by kernel_rfl) rfl rfl ⟨hx1, hy1, hy0, hr1, hb1⟩ (fun hHeld => ?_)
                        refine with_tabW impl_parts.tab9 impl_parts.bits9 (fun HT_ HW_ => ?_)
                        generalize wr.drew = w9 at HS2 HB hx1 hx2 hf2 hr1 hb1 hy1 hy0 hHeld ⊢
                        refine pz_ 0 37 1 ?_
                        refine pz_ 1 38 3 ?_
                        refine pz_ 2 39 7 ?_
                        refine pz_ 4 41 23 ?_
                        refine pz_ 5 42 55 ?_
                        refine pz_ 6 43 119 ?_
                        refine pz_ 7 44 247 ?_
                        refine pz_ 8 45 503 ?_
                        refine pz_ 9 46 1015 ?_
                        refine pz_ 10 47 2039 ?_
                        refine pz_ 11 48 4087 ?_
                        refine pz_ 12 49 8183 ?_
                        refine pz_ 13 50 16375 ?_
                        refine tz_ 3 40 16383 ?_
                        refine tz_ 14 51 32767 ?_
                        refine pz_ 15 52 65535 ?_
                        refine pz_ 16 53 131071 ?_
                        refine pz_ 17 54 262143 ?_
                        refine pz_ 18 55 524287 ?_
                        refine pz_ 19 56 1048575 ?_
                        refine pz_ 21 58 3145727 ?_
                        refine pz_ 22 59 7340031 ?_
                        refine tz_ 20 57 8388607 ?_
                        refine tz_ 23 60 16777215 ?_
                        refine pz_ 24 61 33554431 ?_
                        refine pz_ 25 62 67108863 ?_
                        refine pz_ 26 63 134217727 ?_
                        refine pz_ 27 64 268435455 ?_
                        refine pz_ 28 65 536870911 ?_
                        refine pz_ 29 66 1073741823 ?_
                        refine pz_ 30 67 2147483647 ?_
                        refine pz_ 31 68 4294967295 ?_
                        refine pz_ 33 70 12884901887 ?_
                        refine pz_ 34 71 30064771071 ?_
                        refine tz_ 32 69 34359738367 ?_
                        refine pz_ 35 72 68719476735 ?_
                        refine tz_ 36 73 137438953471 ?_
                        refine pz_ 37 74 274877906943 ?_
                        refine pz_ 38 75 549755813887 ?_
                        refine last_ (i := 39) (N := none) (bz 40 1099511627775) rfl rfl (one_of HT_.out (by kernel_rfl)) (by decide) (fun K hK => ?_)
                        refine skip_ (w1 := ?_) (by rfl) rfl ?_ ?_
                        rotate_left
                        · go_simp
                          rfl
                        refine hK.out _ _ ?_
                        clear hK K
                        refine done_ (done_of HT_.out (by kernel_rfl)) ?_
                        
                        try go_wp2
                        go_roundg k
                        case measure => have := HL2.out; omega
                        case rel => exact ⟨F.set I.toNat (cur.set K.toNat b2), k, cur.set K.toNat b2, int_eq (by have h1_ := HK.out; have h2_ := HKL.out; have h3_ := HZ.out; unfold wrap64; omega), ⟨by have := HKL.out; omega, Nat.le_refl _⟩, ⟨by rw [HIT.out, HKT.out]; exact tab_put HT2.out HKL.out b2 ((fitP_on HIL.out HST.out).trans (by rw [decide_eq_true (show k < a1.size from HKS.out), Bool.true_and, HAN.out, Bool.false_or, HK.out, HCM.out, Bool.true_and, HB2.out]))⟩, HS2, ⟨below_set HB.out HGE.out⟩⟩
                      | false =>
                        have HCM := am_ hcm
                        try go_wp2
                        have n0_ := am_ (Kd.S_drew HS.out)
                        have n1_ := am_ (below_drew1 HB.out)
                        clear HS HB
                        have HS := n0_
                        have HB := n1_
                        clear n0_ n1_
                        have hy1 := kp_ HB hp1
                        have hy0 := kp_ HB hp0
                        obtain ⟨gi, ci, hx1, ⟨u2, hx2⟩, hf2, hb2, hq2, hS2⟩ := s_put HS.out I K cur HC0.out HCU.out HC1.out HQ6.out false
                        have HS2 := am_ hS2
                        have HGE := am_ hb2
                        clear hS2 hb2 hq2 HS
                        refine start_ (n := 40) (S := fun w' => w'.cell? ⟨gF, I.toNat, none⟩ = some (.slice (some ⟨gi, 0, none⟩) cur.length ci) ∧ w'.cell? ⟨(adP.add (I.toNat * 3)).block, (adP.add (I.toNat * 3)).off + 1, none⟩ = some (.bool false) ∧ w'.cell? (adP.add (I.toNat * 3)) = some (.int .u8 (l0[i]'hil).f0)) (ds := [39]) (bz 40 0) (by kernel_rfl) rfl rfl ⟨hx1, hy1, hy0⟩ (fun hHeld => ?_)
                        refine with_tabW impl_parts.tab9 impl_parts.bits9 (fun HT_ HW_ => ?_)
                        generalize wr.drew = w9 at HS2 HB hx1 hx2 hf2 hy1 hy0 hHeld ⊢
                        refine pz_ 0 37 1 ?_
                        refine pz_ 1 38 3 ?_
                        refine pz_ 2 39 7 ?_
                        refine pz_ 4 41 23 ?_
                        refine pz_ 5 42 55 ?_
                        refine pz_ 6 43 119 ?_
                        refine pz_ 7 44 247 ?_
                        refine pz_ 8 45 503 ?_
                        refine pz_ 9 46 1015 ?_
                        refine pz_ 10 47 2039 ?_
                        refine pz_ 11 48 4087 ?_
                        refine pz_ 12 49 8183 ?_
                        refine pz_ 13 50 16375 ?_
                        refine tz_ 3 40 16383 ?_
                        refine tz_ 14 51 32767 ?_
                        refine pz_ 15 52 65535 ?_
                        refine pz_ 16 53 131071 ?_
                        refine pz_ 17 54 262143 ?_
                        refine pz_ 18 55 524287 ?_
                        refine pz_ 19 56 1048575 ?_
                        refine pz_ 21 58 3145727 ?_
                        refine pz_ 22 59 7340031 ?_
                        refine tz_ 20 57 8388607 ?_
                        refine tz_ 23 60 16777215 ?_
                        refine pz_ 24 61 33554431 ?_
                        refine pz_ 25 62 67108863 ?_
                        refine pz_ 26 63 134217727 ?_
                        refine pz_ 27 64 268435455 ?_
                        refine uz_ 28 65 536870911 ?_
                        refine uz_ 29 66 1073741823 ?_
                        refine uz_ 30 67 2147483647 ?_
                        refine uz_ 31 68 4294967295 ?_
                        refine uz_ 32 69 8589934591 ?_
                        refine uz_ 33 70 17179869183 ?_
                        refine uz_ 34 71 34359738367 ?_
                        refine uz_ 35 72 68719476735 ?_
                        refine uz_ 36 73 137438953471 ?_
                        refine pz_ 37 74 274877906943 ?_
                        refine pz_ 38 75 549755813887 ?_
                        refine last_ (i := 39) (N := none) (bz 40 1099511627775) rfl rfl (one_of HT_.out (by kernel_rfl)) (by decide) (fun K hK => ?_)
                        refine skip_ (w1 := ?_) (by rfl) rfl ?_ ?_
                        rotate_left
                        · go_simp
                          rfl
                        refine hK.out _ _ ?_
                        clear hK K
                        refine done_ (done_of HT_.out (by kernel_rfl)) ?_
                        
                        try go_wp2
                        go_roundg k
                        case measure => have := HL2.out; omega
                        case rel => exact ⟨F.set I.toNat (cur.set K.toNat false), k, cur.set K.toNat false, int_eq (by have h1_ := HK.out; have h2_ := HKL.out; have h3_ := HZ.out; unfold wrap64; omega), ⟨by have := HKL.out; omega, Nat.le_refl _⟩, ⟨by rw [HIT.out, HKT.out]; exact tab_put HT2.out HKL.out false ((fitP_on HIL.out HST.out).trans (by rw [decide_eq_true (show k < a1.size from HKS.out), Bool.true_and, HAN.out, Bool.false_or, HK.out, HCM.out, Bool.false_and]))⟩, HS2, ⟨below_set HB.out HGE.out⟩⟩
                  · have ksb : decide (K < (a1.size : Int)) = false := decide_eq_false (by have := HK.out; omega)
                    have HKS2 := am_ ks
                    clear ks
                    try go_wp2
                    have n0_ := am_ (Kd.S_drew HS.out)
                    have n1_ := am_ (below_drew1 HB.out)
                    clear HS HB
                    have HS := n0_
                    have HB := n1_
                    clear n0_ n1_
                    obtain ⟨gi, ci, hx1, ⟨u2, hx2⟩, hf2, hb2, hq2, hS2⟩ := s_put HS.out I K cur HC0.out HCU.out HC1.out HQ6.out false
                    have HS2 := am_ hS2
                    have HGE := am_ hb2
                    clear hS2 hb2 hq2 HS
                    refine start_ (n := 40) (S := fun w' => w'.cell? ⟨gF, I.toNat, none⟩ = some (.slice (some ⟨gi, 0, none⟩) cur.length ci)) (ds := [39]) (bz 40 0) (by kernel_rfl) rfl rfl (hx1) (fun hHeld => ?_)
                    refine with_tabW impl_parts.tab9 impl_parts.bits9 (fun HT_ HW_ => ?_)
                    generalize wr.drew = w9 at HS2 HB hx1 hx2 hf2  hHeld ⊢
                    refine pz_ 0 37 1 ?_
                    refine pz_ 1 38 3 ?_
                    refine pz_ 2 39 7 ?_
                    refine pz_ 4 41 23 ?_
                    refine pz_ 5 42 55 ?_
                    refine pz_ 6 43 119 ?_
                    refine pz_ 7 44 247 ?_
                    refine pz_ 8 45 503 ?_
                    refine pz_ 9 46 1015 ?_
                    refine uz_ 10 47 2039 ?_
                    refine uz_ 11 48 4087 ?_
                    refine uz_ 12 49 8183 ?_
                    refine uz_ 13 50 16375 ?_
                    refine uz_ 14 51 32759 ?_
                    refine uz_ 15 52 65527 ?_
                    refine uz_ 16 53 131063 ?_
                    refine uz_ 17 54 262135 ?_
                    refine uz_ 18 55 524279 ?_
                    refine uz_ 19 56 1048567 ?_
                    refine uz_ 20 57 2097143 ?_
                    refine uz_ 21 58 4194295 ?_
                    refine uz_ 22 59 8388599 ?_
                    refine uz_ 23 60 16777207 ?_
                    refine uz_ 24 61 33554423 ?_
                    refine uz_ 25 62 67108855 ?_
                    refine pz_ 26 63 134217719 ?_
                    refine pz_ 27 64 268435447 ?_
                    refine uz_ 28 65 536870903 ?_
                    refine uz_ 29 66 1073741815 ?_
                    refine uz_ 30 67 2147483639 ?_
                    refine uz_ 31 68 4294967287 ?_
                    refine uz_ 32 69 8589934583 ?_
                    refine uz_ 33 70 17179869175 ?_
                    refine uz_ 34 71 34359738359 ?_
                    refine uz_ 35 72 68719476727 ?_
                    refine uz_ 36 73 137438953463 ?_
                    refine pz_ 37 74 274877906935 ?_
                    refine tz_ 3 40 274877906943 ?_
                    refine pz_ 38 75 549755813887 ?_
                    refine last_ (i := 39) (N := none) (bz 40 1099511627775) rfl rfl (one_of HT_.out (by kernel_rfl)) (by decide) (fun K hK => ?_)
                    refine skip_ (w1 := ?_) (by rfl) rfl ?_ ?_
                    rotate_left
                    · go_simp
                      rfl
                    refine hK.out _ _ ?_
                    clear hK K
                    refine done_ (done_of HT_.out (by kernel_rfl)) ?_
                    
                    try go_wp2
                    go_roundg k
                    case measure => have := HL2.out; omega
                    case rel => exact ⟨F.set I.toNat (cur.set K.toNat false), k, cur.set K.toNat false, int_eq (by have h1_ := HK.out; have h2_ := HKL.out; have h3_ := HZ.out; unfold wrap64; omega), ⟨by have := HKL.out; omega, Nat.le_refl _⟩, ⟨by rw [HIT.out, HKT.out]; exact tab_put HT2.out HKL.out false ((fitP_on HIL.out HST.out).trans (by rw [decide_eq_false HKS2.out, Bool.false_and]))⟩, HS2, ⟨below_set HB.out HGE.out⟩⟩
        | zero =>
          have c0b : decide (0 ≤ I) = false := decide_eq_false (by omega)
          clear hI
          obtain ⟨row0, hrow0⟩ : ∃ r_, rowP a1 l0 = r_ := ⟨_, rfl⟩
          have HRL := am_ (show row0.length = a1.size + 1 by rw [← hrow0]; exact rowP_len _ _)
          have HR00 := am_ (show row0[0]? = some (fitP a1 l0 0) by rw [← hrow0]; exact rowP_at (Nat.zero_le _))
          have HRF := am_ (show F[(0 : Int).toNat]? = some row0 by rw [← hrow0]; exact HT.out.row 0 (Nat.le_refl _) (Nat.zero_le _))
          obtain ⟨g0, c00, hr0, hl0, hC0⟩ := s_row HS.out 0 row0 (Int.le_refl _) HRF.out (by have := HRL.out; omega)
          obtain ⟨ad0, ea0, hb0⟩ := Kd.at_bool hC0 0 (Int.le_refl _) (by have := HRL.out; omega)
          cases ea0
          rw [add_plain, show rdOf false row0 0 = fitP a1 l0 0 from by rw [rdOf, Int.toNat_zero, List.getD_eq_getElem?_getD, HR00.out]; rfl] at hb0
          rw [Int.toNat_zero] at hr0 hb0
          have q0a : (0 < (nF : Int)) = True := eq_true (by have := HNF.out; omega)
          have q0b : (0 < nF) = True := eq_true (by have := HNF.out; omega)
          have q0c : (0 < (row0.length : Int)) = True := eq_true (by have := HRL.out; omega)
          have q0d : (0 < row0.length) = True := eq_true (by have := HRL.out; omega)
          clear hC0 hl0 hrow0
          cases hf : fitP a1 l0 0 with
          | false =>
            rw [hf] at hb0
            obtain ⟨rfl, rfl⟩ : r1 = [] ∧ r2 = false := by have h := HF.out; rw [if_neg (by rw [hf]; decide)] at h; simp only [Option.some.injEq, Prod.mk.injEq] at h; exact ⟨h.1.symm, h.2.symm⟩
            clear hf
            go_wp2
            go_ret2
            exact ⟨_, rf_, ni_, bl_⟩
          | true =>
            rw [hf] at hb0
            obtain ⟨hr1e, rfl⟩ : partP a1 l0 0 = r1 ∧ true = r2 := by have h := HF.out; rw [if_pos hf] at h; simp only [Option.some.injEq, Prod.mk.injEq] at h; exact h
            have HR1 := am_ hr1e
            have HFT := am_ hf
            clear hr1e hf
            go_wp2
            go_loopg [9, 10, 135] l0.length (fun gg v9 v10 v135 w' => ∃ (o : List ByteArray) (m q : Nat), v10 = .int .i64 (q : Int) ∧ v135 = .int .i64 (m : Int) ∧ Aside0 (m ≤ l0.length ∧ q ≤ a1.size ∧ l0.length - m ≤ gg ∧ o.length ≤ m) ∧ Aside0 (fitP a1 (l0.drop m) q = true) ∧ Aside0 (o ++ partP a1 (l0.drop m) q = r1) ∧ Aside0 (Kd.S (Kd.slice 4 Kd.bool) 116 w' w.heap.size (fun _ => True) (.slice (some ⟨gF, 0, none⟩) nF cF) F) ∧ Aside0 (Kd.R Kd.string 9 w' w.heap.size (fun _ => True) v9 o) ∧ Aside0 (Below w.heap.size w w'))
            case atStart => exact ⟨[], 0, 0, rs_, rs_, ⟨⟨Nat.zero_le _, Nat.zero_le _, by omega, Nat.le_refl _⟩⟩, HFT, HR1, ⟨sq_ HS⟩, ⟨ni_⟩, ⟨bl_⟩⟩
            case round =>
              clear HS HB HFT hr0 hb0 HRF
              obtain ⟨o, m, qn, rfl, rfl, HLm, HFm, HRm, HS, HO, HB⟩ := hrel
              obtain ⟨M, hM⟩ : ∃ M : Int, (m : Int) = M := ⟨_, rfl⟩
              obtain ⟨Q, hQ⟩ : ∃ Q : Int, (qn : Int) = Q := ⟨_, rfl⟩
              rw [hM, hQ]
              have HM := am_ hM
              have HQ := am_ hQ
              have HMT := am_ (show M.toNat = m by omega)
              have HQT := am_ (show Q.toNat = qn by omega)
              by_cases cm : M < (l0.length : Int)
              · have cmb : decide (M < (l0.length : Int)) = true := decide_eq_true cm
                have hml : m < l0.length := by omega
                have HML := am_ hml
                have hm0 : 0 ≤ M := by omega
                have pM := eq_true hm0
                have qM := eq_true cm
                obtain ⟨adP, eP, hp0, hp1, hp2⟩ := at_T119 HR0.out M hm0 cm
                have hrd : rd_T119 l0 M = l0[m]'hml := by show l0.getD M.toNat _ = _; rw [HMT.out, List.getD_eq_getElem?_getD, List.getElem?_eq_getElem hml]; rfl
                rw [hrd] at hp0 hp1 hp2
                cases eP
                clear hrd hm0 cm hM hQ
                have hp0 := kp_ HB hp0
                have hp1 := kp_ HB hp1
                have hp2 := kp_ HB hp2
                obtain ⟨J1, hJ1⟩ : ∃ j_ : Int, wrap64 (M + 1) = j_ := ⟨_, rfl⟩
                have hJ1w : IntKind.i64.wrap (M + 1) = J1 := (i64_w _).trans hJ1
                have HJ1 := am_ (show J1 = ((m + 1 : Nat) : Int) by rw [← hJ1]; have h1_ := HM.out; have h2_ := HML.out; have h3_ := HZ.out; unfold wrap64; omega)
                cases hst : (l0[m]'hml).f2 with
                | false =>
                  rw [hst] at hp2
                  have HST := am_ hst
                  clear hst
                  have hfo := HFm.out
                  rw [fitP_on HML.out HST.out] at hfo
                  simp only [Bool.and_eq_true, decide_eq_true_eq] at hfo
                  have HFN := am_ hfo.2.2
                  have HQL := am_ hfo.1
                  clear hfo
                  have HRn := am_ ((congrArg (o ++ ·) (partP_on HML.out HST.out)).symm.trans HRm.out)
                  go_wp2_with (first | ((with_reducible refine gate_dst (N := 12) rfl ?_); refine bx_ 12 #[.int .u8 0, .bool false, .bool false] 119 ?_; intro gx hg w12 hbox hb; have n0_ := am_ (Kd.S_below (show Kd.S (Kd.slice 4 Kd.bool) 116 _ w.heap.size (fun _ => True) (.slice (some ⟨gF, 0, none⟩) nF cF) F from sq_ HS) hb); have n1_ := am_ (Kd.R_below (show Kd.R Kd.string 9 _ w.heap.size (fun _ => True) _ o from ro_ HO) hb); have n2_ := am_ (gs_ hg : w.heap.size ≤ gx); have n3_ := am_ (below_step bl_ hb); have BX := am_ hbox; clear HS HO HB; have HS := n0_; have HO := n1_; have HGX := n2_; have HB := n3_; clear n0_ n1_ n2_ n3_ hb hbox hg; have hcz1_0 := bc3_0 BX; have hcz1_1 := bc3_1 BX; have hcz1_2 := bc3_2 BX; have hfz1_0 := bf_ BX 0; have hfz1_1 := bf_ BX 1; have hfz1_2 := bf_ BX 2) | ((with_reducible refine gate_store (t := 119) (p := 12) rfl ?_); refine store_event (t := 119) (p := 12) (v := ?vo_12) (w1 := (((w12.setCell ⟨gx, 0, none⟩ (.int .u8 (l0[m]'hml).f0)).setCell ⟨gx, 1, none⟩ (.bool (l0[m]'hml).f1)).setCell ⟨gx, 2, none⟩ (.bool false))) ?hg ?ho ?hn ?hr ?_; (case ho => rfl); (case hg => rfl); (case hn => rfl); (case hr => first | (go_simp; done) | (go_simp; rfl)); intro w13 hw; have hs1_ := Kd.S_types (show Kd.S (Kd.slice 4 Kd.bool) 116 _ w.heap.size (fun _ => True) (.slice (some ⟨gF, 0, none⟩) nF cF) F from sq_ HS) BX.out (by decide); have hs2_ := Kd.R_types (show Kd.R Kd.string 9 _ w.heap.size (fun _ => True) _ o from ro_ HO) BX.out (by decide); have n0_ := am_ (show Kd.S (Kd.slice 4 Kd.bool) 116 w13 w.heap.size (fun _ => True) (.slice (some ⟨gF, 0, none⟩) nF cF) F from by rw [hw]; exact Kd.S_mono (Kd.S_far (p := ⟨gx, 2, none⟩) (Kd.S_far (p := ⟨gx, 1, none⟩) (Kd.S_far (p := ⟨gx, 0, none⟩) hs1_ (fun _ hk => hk.2) _) (fun _ hk => hk.2) _) (fun _ hk => hk.2) _) (fun _ _ => trivial)); have n1_ := am_ (show Kd.R Kd.string 9 w13 w.heap.size (fun _ => True) u9 o from by rw [hw]; exact Kd.R_mono (Kd.R_far (p := ⟨gx, 2, none⟩) (Kd.R_far (p := ⟨gx, 1, none⟩) (Kd.R_far (p := ⟨gx, 0, none⟩) hs2_ (fun _ hk => hk.2) _) (fun _ hk => hk.2) _) (fun _ hk => hk.2) _) (fun _ _ => trivial)); have n2_ := am_ (show w13.heap[gx]? = some (.cells #[.int .u8 (l0[m]'hml).f0, .bool (l0[m]'hml).f1, .bool false] 119 (0, 0)) from by rw [hw]; exact blk_put (cs := #[.int .u8 (l0[m]'hml).f0, .bool (l0[m]'hml).f1, .bool false]) (blk_put (cs := #[.int .u8 (l0[m]'hml).f0, .bool false, .bool false]) (blk_put (cs := #[.int .u8 0, .bool false, .bool false]) BX.out 0 _ rfl) 1 _ rfl) 2 _ rfl); have n3_ := am_ (show Below w.heap.size w w13 from by rw [hw]; exact below_set (below_set (below_set HB.out HGX.out) HGX.out) HGX.out); clear HS HO BX HB hs1_ hs2_ hcz1_0 hcz1_1 hcz1_2 hfz1_0 hfz1_1 hfz1_2; have HS := n0_; have HO := n1_; have BX := n2_; have HB := n3_; clear n0_ n1_ n2_ n3_ hw; have hcz1_2 := bc3_2 BX))
                  go_roundg (l0.length - (m + 1))
                  case measure => have h1_ := HLm.out; have h2_ := HML.out; omega
                  case rel => exact ⟨o, m + 1, qn + 1, int_eq (by have h1_ := HQ.out; have h2_ := HQL.out; have h3_ := HZ.out; unfold wrap64; omega), int_eq (by have := HJ1.out; omega), ⟨by have h1_ := HLm.out; have h2_ := HML.out; have h3_ := HQL.out; omega⟩, HFN, HRn, ⟨sq_ HS⟩, ⟨ro_ HO⟩, ⟨bl_⟩⟩
                | true =>
                  rw [hst] at hp2
                  have HST := am_ hst
                  clear hst
                  have HFS := am_ ((fitP_star HML.out HST.out).symm.trans HFm.out)
                  have HRn := am_ ((congrArg (o ++ ·) (partP_star HML.out HST.out)).symm.trans HRm.out)
                  obtain ⟨nx, hnx⟩ : ∃ n_, nxtF (fitP a1 (l0.drop (m + 1))) (a1.size - qn) qn = n_ := ⟨_, rfl⟩
                  rw [hnx] at HRn
                  have HNX := am_ hnx
                  clear hnx
                  obtain ⟨row1, hrow1⟩ : ∃ r_, rowP a1 (l0.drop (m + 1)) = r_ := ⟨_, rfl⟩
                  have HRL := am_ (show row1.length = a1.size + 1 by rw [← hrow1]; exact rowP_len _ _)
                  have HRA := am_ (show ∀ q, q ≤ a1.size → row1[q]? = some (fitP a1 (l0.drop (m + 1)) q) from fun q hq => by rw [← hrow1]; exact rowP_at hq)
                  have HRF := am_ (show F[J1.toNat]? = some row1 by rw [show J1.toNat = m + 1 by have := HJ1.out; omega, HT.out.row (m + 1) (Nat.zero_le _) hml, hrow1])
                  clear hrow1
                  have p8 : (0 ≤ J1) = True := eq_true (by have := HJ1.out; omega)
                  have q8 : (J1 < (nF : Int)) = True := eq_true (by have h1_ := HJ1.out; have h2_ := HNF.out; omega)
                  go_wp2_with (first | ((with_reducible refine gate_dst (N := 12) rfl ?_); refine bx_ 12 #[.int .u8 0, .bool false, .bool false] 119 ?_; intro gx hg w12 hbox hb; have n0_ := am_ (Kd.S_below (show Kd.S (Kd.slice 4 Kd.bool) 116 _ w.heap.size (fun _ => True) (.slice (some ⟨gF, 0, none⟩) nF cF) F from sq_ HS) hb); have n1_ := am_ (Kd.R_below (show Kd.R Kd.string 9 _ w.heap.size (fun _ => True) _ o from ro_ HO) hb); have n2_ := am_ (gs_ hg : w.heap.size ≤ gx); have n3_ := am_ (below_step bl_ hb); have BX := am_ hbox; clear HS HO HB; have HS := n0_; have HO := n1_; have HGX := n2_; have HB := n3_; clear n0_ n1_ n2_ n3_ hb hbox hg; have hcz1_0 := bc3_0 BX; have hcz1_1 := bc3_1 BX; have hcz1_2 := bc3_2 BX; have hfz1_0 := bf_ BX 0; have hfz1_1 := bf_ BX 1; have hfz1_2 := bf_ BX 2) | ((with_reducible refine gate_store (t := 119) (p := 12) rfl ?_); refine store_event (t := 119) (p := 12) (v := ?vo_12) (w1 := (((w12.setCell ⟨gx, 0, none⟩ (.int .u8 (l0[m]'hml).f0)).setCell ⟨gx, 1, none⟩ (.bool (l0[m]'hml).f1)).setCell ⟨gx, 2, none⟩ (.bool true))) ?hg ?ho ?hn ?hr ?_; (case ho => rfl); (case hg => rfl); (case hn => rfl); (case hr => first | (go_simp; done) | (go_simp; rfl)); intro w13 hw; have hs1_ := Kd.S_types (show Kd.S (Kd.slice 4 Kd.bool) 116 _ w.heap.size (fun _ => True) (.slice (some ⟨gF, 0, none⟩) nF cF) F from sq_ HS) BX.out (by decide); have hs2_ := Kd.R_types (show Kd.R Kd.string 9 _ w.heap.size (fun _ => True) _ o from ro_ HO) BX.out (by decide); have n0_ := am_ (show Kd.S (Kd.slice 4 Kd.bool) 116 w13 w.heap.size (fun _ => True) (.slice (some ⟨gF, 0, none⟩) nF cF) F from by rw [hw]; exact Kd.S_mono (Kd.S_far (p := ⟨gx, 2, none⟩) (Kd.S_far (p := ⟨gx, 1, none⟩) (Kd.S_far (p := ⟨gx, 0, none⟩) hs1_ (fun _ hk => hk.2) _) (fun _ hk => hk.2) _) (fun _ hk => hk.2) _) (fun _ _ => trivial)); have n1_ := am_ (show Kd.R Kd.string 9 w13 w.heap.size (fun _ => True) u9 o from by rw [hw]; exact Kd.R_mono (Kd.R_far (p := ⟨gx, 2, none⟩) (Kd.R_far (p := ⟨gx, 1, none⟩) (Kd.R_far (p := ⟨gx, 0, none⟩) hs2_ (fun _ hk => hk.2) _) (fun _ hk => hk.2) _) (fun _ hk => hk.2) _) (fun _ _ => trivial)); have n2_ := am_ (show w13.heap[gx]? = some (.cells #[.int .u8 (l0[m]'hml).f0, .bool (l0[m]'hml).f1, .bool true] 119 (0, 0)) from by rw [hw]; exact blk_put (cs := #[.int .u8 (l0[m]'hml).f0, .bool (l0[m]'hml).f1, .bool false]) (blk_put (cs := #[.int .u8 (l0[m]'hml).f0, .bool false, .bool false]) (blk_put (cs := #[.int .u8 0, .bool false, .bool false]) BX.out 0 _ rfl) 1 _ rfl) 2 _ rfl); have n3_ := am_ (show Below w.heap.size w w13 from by rw [hw]; exact below_set (below_set (below_set HB.out HGX.out) HGX.out) HGX.out); clear HS HO BX HB hs1_ hs2_ hcz1_0 hcz1_1 hcz1_2 hfz1_0 hfz1_1 hfz1_2; have HS := n0_; have HO := n1_; have BX := n2_; have HB := n3_; clear n0_ n1_ n2_ n3_ hw; have hcz1_2 := bc3_2 BX))
                  go_loopg [13] a1.size (fun gg v13 w' => ∃ (nn : Nat), v13 = .int .i64 (nn : Int) ∧ Aside0 (qn ≤ nn ∧ nn ≤ a1.size ∧ a1.size - nn ≤ gg) ∧ Aside0 (starF (fitP a1 (l0.drop (m + 1))) (a1.size - nn) nn = true) ∧ Aside0 (nxtF (fitP a1 (l0.drop (m + 1))) (a1.size - nn) nn = nx) ∧ Aside0 (Kd.S (Kd.slice 4 Kd.bool) 116 w' w.heap.size (fun _ => True) (.slice (some ⟨gF, 0, none⟩) nF cF) F) ∧ Aside0 (Kd.R Kd.string 9 w' w.heap.size (fun _ => True) u9 o) ∧ Aside0 (Below w.heap.size w w'))
                  case atStart => exact ⟨qn, int_eq HQ.out.symm, ⟨by have := HLm.out; omega⟩, HFS, HNX, ⟨sq_ HS⟩, ⟨ro_ HO⟩, ⟨bl_⟩⟩
                  case round =>
                    clear HS HO HB HFS HNX BX hcz1_2
                    obtain ⟨nn, rfl, HLn, HSt, HNx, HS, HO, HB⟩ := hrel
                    obtain ⟨K, hK⟩ : ∃ K : Int, (nn : Int) = K := ⟨_, rfl⟩
                    rw [hK]
                    have HK := am_ hK
                    have HKT := am_ (show K.toNat = nn by omega)
                    have HC1 := am_ (show 0 ≤ K by omega)
                    have HKL := am_ (show nn ≤ a1.size from HLn.out.2.1)
                    clear hK
                    have p6 := eq_true HC1.out
                    have q9 : (K < (row1.length : Int)) = True := eq_true (by have h1_ := HRL.out; have h2_ := HKL.out; have h3_ := HK.out; omega)
                    obtain ⟨g1, c1, hr1, hl1, hC1⟩ := s_row HS.out J1 row1 (of_eq_true p8) HRF.out (by have := HRL.out; omega)
                    obtain ⟨ad1, ea1, hb1⟩ := Kd.at_bool hC1 K (by first | exact HC1.out | (have := HK1.out; omega)) (by first | exact of_eq_true q9 | (have h1_ := HK1.out; have h2_ := HRL.out; have h3_ := HKS.out; omega))
                    cases ea1
                    rw [add_plain] at hb1
                    clear hC1 hl1
                    cases hb : fitP a1 (l0.drop (m + 1)) nn with
                    | false =>
                      rw [show rdOf false row1 K = false from by rw [rdOf, HKT.out, List.getD_eq_getElem?_getD, HRA.out nn HKL.out, hb]; rfl] at hb1
                      have HNL := am_ (show nn < a1.size from (Nat.lt_or_ge nn a1.size).elim (fun h_ => h_) (fun h_ => by have h2_ := HSt.out; rw [starF_end (by omega), hb] at h2_; cases h2_))
                      have HSt2 := am_ (show starF (fitP a1 (l0.drop (m + 1))) (a1.size - (nn + 1)) (nn + 1) = true from by have h2_ := HSt.out; rw [starF_on HNL.out, hb, Bool.false_or] at h2_; exact h2_)
                      have HNx2 := am_ (show nxtF (fitP a1 (l0.drop (m + 1))) (a1.size - (nn + 1)) (nn + 1) = nx from by have h2_ := HNx.out; rw [show a1.size - nn = (a1.size - (nn + 1)) + 1 from by have := HNL.out; omega] at h2_; simp only [nxtF] at h2_; rw [if_neg (by rw [hb]; decide)] at h2_; exact h2_)
                      clear hb
                      go_wp2
                      go_roundg (a1.size - (nn + 1))
                      case measure => have h1_ := HLn.out; have h2_ := HNL.out; omega
                      case rel => exact ⟨nn + 1, int_eq (by have h1_ := HK.out; have h2_ := HKL.out; have h3_ := HZ.out; unfold wrap64; omega), ⟨by have h1_ := HLn.out; have h2_ := HNL.out; omega⟩, HSt2, HNx2, ⟨sq_ HS⟩, ⟨ro_ HO⟩, ⟨bl_⟩⟩
                    | true =>
                      rw [show rdOf false row1 K = true from by rw [rdOf, HKT.out, List.getD_eq_getElem?_getD, HRA.out nn HKL.out, hb]; rfl] at hb1
                      obtain rfl : nx = nn := by have h2_ := HNx.out; cases h3_ : a1.size - nn with | zero => rw [h3_] at h2_; exact h2_.symm | succ d_ => rw [h3_] at h2_; simp only [nxtF] at h2_; rw [if_pos hb] at h2_; exact h2_.symm
                      have HFN := am_ hb
                      clear hb
                      have pQ0 : (0 ≤ Q) = True := eq_true (by have := HQ.out; omega)
                      have pQK : (Q ≤ K) = True := eq_true (by have h1_ := HQ.out; have h2_ := HK.out; have h3_ := HLn.out; omega)
                      have pKs : (K ≤ (a1.size : Int)) = True := eq_true (by have h2_ := HK.out; have h3_ := HKL.out; omega)
                      go_wp2_with (first | ((with_reducible refine gate_builtin (b := .append) (xs := #[.tmp 157, .tmp 162]) rfl ?_); at_builtin; refine Kd.R_append Kd.string (w0 := w) w.heap.size rfl (.tmp 157) (.tmp 162) 123 9 (.string ⟨#[]⟩) 16 rfl Tryz.underlying123 iT rfl (by decide) (by omega) u9 o (a1.extract Q.toNat K.toNat) [.string (a1.extract Q.toNat K.toNat)] (fun _ => True) (fun _ => False) rfl rfl ?aP (fun _ hk => hk.elim) ?aF ?aO ?aB ?aS ?aL ?_; (case aP => exact rfl); (case aB => exact bl_); (case aF => exact (fun _ _ => trivial)); (case aO => exact (ro_ HO)); (case aS => exact (below_size bl_)); (case aL => have h1_ := HLm.out; have h2_ := HZ.out; omega); intro v163 w163 ho hb hg hat; have n0_ := am_ (s_over (show Kd.S (Kd.slice 4 Kd.bool) 116 _ w.heap.size (fun _ => True) (.slice (some ⟨gF, 0, none⟩) nF cF) F from sq_ HS) (Kd.R_typed (show Kd.R Kd.string 9 _ w.heap.size (fun _ => True) u9 o from ro_ HO)) (by decide) hg); have n1_ := am_ hb; have n2_ := am_ ho; clear HS HB HO; have HS := n0_; have HB := n1_; have HO := n2_; clear n0_ n1_ n2_ ho hb hg hat))
                      go_roundg (l0.length - (m + 1))
                      case measure => have h1_ := HLm.out; have h2_ := HML.out; omega
                      case rel => exact ⟨o ++ [a1.extract Q.toNat K.toNat], m + 1, nx, int_eq HK.out.symm, int_eq (by have := HJ1.out; omega), ⟨by have h1_ := HLm.out; have h2_ := HML.out; have h3_ := HKL.out; rw [List.length_append, List.length_singleton]; omega⟩, HFN, ⟨by rw [HQT.out, HKT.out, List.append_assoc]; exact HRn.out⟩, ⟨sq_ HS⟩, ⟨ro_ HO⟩, ⟨bl_⟩⟩
              · have cmb : decide (M < (l0.length : Int)) = false := decide_eq_false cm
                obtain rfl : r1 = o := by have h_ := HRm.out; rw [List.drop_eq_nil_of_le (by omega)] at h_; exact (h_.symm.trans (List.append_nil o))
                clear cm hM hQ
                go_wp2
                go_ret2
                exact ⟨_, rf_, ro_ HO, bl_⟩
    · rw [if_neg z2] at h
      cases h
  · rw [if_neg z1] at h
    cases h

/-! ### impl_PatternParts: function 102 -/
mutual
def impl_PatternParts.j0 : Nat → ByteArray → List (List (S119)) → Bool → Option (List ByteArray × Bool)
 | 0, _, _, _ => none
 | k + 1, x1, x6, x23 => if x23 = true then (some (([] : List ByteArray), false)) else (impl_PatternParts.l0 k x1 x6 (x6.length : Int) 0)
def impl_PatternParts.l0 : Nat → ByteArray → List (List (S119)) → Int → Int → Option (List ByteArray × Bool)
 | 0, _, _, _, _ => none
 | k + 1, x1, x24, x25, x26 => if x26 < x25 then (if 0 ≤ x26 then (if x26 < (x24.length : Int) then ((impl_parts.f (rd_L18 x24 x26) x1).bind fun bt1006 => (if bt1006.2 = true then (some (bt1006.1, true)) else (impl_PatternParts.l0 k x1 x24 x25 (wrap64 (x26 + 1))))) else (none)) else (none)) else (some (([] : List ByteArray), false))
end
def impl_PatternParts.f (k : Nat) (a0 : ByteArray) (a1 : ByteArray) : Option (List ByteArray × Bool) := (impl_alternatives.f k a0).bind fun bt1001 => (if bt1001.2 = true then (impl_PatternParts.j0 k a1 bt1001.1 (decide ((a1.size : Int) > 100))) else (impl_PatternParts.j0 k a1 bt1001.1 true))
theorem impl_PatternParts.mono_l : ∀ k, (∀ y0 y1 y2, LeO (impl_PatternParts.j0 k y0 y1 y2) (impl_PatternParts.j0 (k + 1) y0 y1 y2)) ∧ (∀ y0 y1 y2 y3, LeO (impl_PatternParts.l0 k y0 y1 y2 y3) (impl_PatternParts.l0 (k + 1) y0 y1 y2 y3))
 | 0 => ⟨fun _ _ _ r h => by simp [impl_PatternParts.j0] at h, fun _ _ _ _ r h => by simp [impl_PatternParts.l0] at h⟩
 | k + 1 => by
  obtain ⟨ih0, ih1⟩ := impl_PatternParts.mono_l k
  refine ⟨?_, ?_⟩
  ·intro y0 y1 y2
   unfold impl_PatternParts.j0
   repeat' with_reducible first | apply ih0 | apply ih1 | apply impl_alternatives.mono | apply LeO.refl | apply LeO.none | apply LeO.ite | refine LeO.bind ?_ (fun _ => ?_)
  ·intro y0 y1 y2 y3
   unfold impl_PatternParts.l0
   repeat' with_reducible first | apply ih0 | apply ih1 | apply impl_alternatives.mono | apply LeO.refl | apply LeO.none | apply LeO.ite | refine LeO.bind ?_ (fun _ => ?_)
theorem impl_PatternParts.mono : ∀ a0 a1 k, LeO (impl_PatternParts.f k a0 a1) (impl_PatternParts.f (k + 1) a0 a1) := by
 intro a0 a1 k
 obtain ⟨ih0, ih1⟩ := impl_PatternParts.mono_l k
 unfold impl_PatternParts.f
 repeat' with_reducible first | apply ih0 | apply ih1 | apply impl_alternatives.mono | apply LeO.refl | apply LeO.none | apply LeO.ite | refine LeO.bind ?_ (fun _ => ?_)
set_option maxHeartbeats 8000000 in
set_option maxRecDepth 100000 in
theorem impl_PatternParts.calls (k : Nat) (a0 : ByteArray) (a1 : ByteArray) (r1 : List ByteArray) (r2 : Bool) (w : World) (h : impl_PatternParts.f k a0 a1 = some (r1, r2)) :
  Calls Tryz.prog 102 #[.string a0, .string a1] w fun e w' => ∃ v0_ : Value, e = .returned (.tuple #[v0_, .bool r2]) ∧ Kd.R Kd.string 9 w' w.heap.size (fun _ => True) v0_ r1 ∧ Below w.heap.size w w' := by
 have HB := am_ (Below.refl w.heap.size w); have H : ((impl_alternatives.f k a0).bind fun bt1001 => (if bt1001.2 = true then (impl_PatternParts.j0 k a1 bt1001.1 (decide ((a1.size : Int) > 100))) else (impl_PatternParts.j0 k a1 bt1001.1 true))) = some (r1, r2) := h; clear h; replace H := Option.bind_eq_some_iff.mp H; obtain ⟨⟨t1001, t1002⟩, A30, H⟩ := H; replace H : (if t1002 = true then (impl_PatternParts.j0 k a1 t1001 (decide ((a1.size : Int) > 100))) else (impl_PatternParts.j0 k a1 t1001 true)) = some (r1, r2) := H; have A3 := am_ A30; clear A30; have HC4 := am_ H; clear H; go_enter Tryz.func102, Tryz.ntmps102; go_upto_region 2 with (first | ((with_reducible refine gate_callee (f := 93) rfl ?_); refine gl_ 14 Tryz.func93 #[.string a0] ?_; (with_reducible refine (impl_alternatives.calls k a0 t1001 t1002 _ A3.out).mono ?_); rintro e w5 ⟨v1003, rfl, ho0, hb⟩; refine ⟨_, rfl, ?_⟩; have HO1004 := am_ (Kd.S_lower ho0 (below_size bl_)); replace HB := am_ (below_step bl_ hb); (try clear hb); (try clear ho0))); (try simp only [Act.put, List.setIfInBounds_toArray, List.set_cons_zero, List.set_cons_succ])
 go_cut [23] (fun v23 wc => ∃ (kq : Nat) (x23_3 : Bool), v23 = .bool x23_3 ∧ Aside0 (impl_PatternParts.j0 kq a1 t1001 x23_3 = some (r1, r2)) ∧ Aside0 (kq ≤ k) ∧ Aside0 (Kd.S (Kd.slice 119 k119) 120 wc w.heap.size (fun _ => True) v1003 t1001) ∧ Aside0 (Below w.heap.size w wc))
 case first =>
  have H := HC4.out; clear HC4
  by_cases c6 : t1002 = true
  ·subst c6; replace H := it_ H; have H' := am_ H; clear H; go_wp2; go_meet
   case rel => exact ⟨_, (decide ((a1.size : Int) > 100)), rs_, H', ⟨by first | omega | exact Nat.le_refl _⟩, ⟨by (with_reducible repeat (first | apply Kd.S_alloc | apply Kd.S_drewN | apply Kd.S_drew)); exact HO1004.out⟩, ⟨bl_⟩⟩
  ·replace c6 := Bool.eq_false_iff.mpr c6; subst c6; replace H := if_ H; have H' := am_ H; clear H; go_wp2; go_meet
   case rel => exact ⟨_, (true), rs_, H', ⟨by first | omega | exact Nat.le_refl _⟩, ⟨by (with_reducible repeat (first | apply Kd.S_alloc | apply Kd.S_drewN | apply Kd.S_drew)); exact HO1004.out⟩, ⟨bl_⟩⟩
 case rest =>
  clear HC4; obtain ⟨kq, x23_3, rfl, HA, HJ3, HO_6, HB⟩ := hcut
  cases kq with
  | zero => exact absurd HA.out (by simp [impl_PatternParts.j0])
  | succ kj3 =>
   have H := HA.out; clear HA; simp only [impl_PatternParts.j0] at H
   by_cases c7 : x23_3 = true
   ·subst c7; replace H := it_ H; simp only [Option.some.injEq, Prod.mk.injEq] at H; obtain ⟨rfl, rfl⟩ := H; go_wp2; go_ret2; exact ⟨_, rf_, ni_, bl_⟩
   ·replace c7 := Bool.eq_false_iff.mpr c7; subst c7; replace H := if_ H; have H' := am_ H; clear H; obtain ⟨Ao8, co8, eo8⟩ := Kd.S_slice HO_6.out; subst eo8; go_wp2
    go_loopg [26] kj3 (fun kq v26 w' => ∃ (x26_2 : Int), v26 = .int .i64 x26_2 ∧ Aside0 (impl_PatternParts.l0 kq a1 t1001 (t1001.length : Int) x26_2 = some (r1, r2)) ∧ Aside0 (kq ≤ kj3) ∧ Aside0 (Kd.S (Kd.slice 119 k119) 120 w' w.heap.size (fun _ => True) (.slice Ao8 t1001.length co8) t1001) ∧ Aside0 (Below w.heap.size w w'))
    case atStart => exact ⟨(0), rs_, H', ⟨Nat.le_refl _⟩, ⟨by (with_reducible repeat (first | apply Kd.S_alloc | apply Kd.S_drewN | apply Kd.S_drew)); exact HO_6.out⟩, ⟨bl_⟩⟩
    case round =>
     clear H'; (try clear c7); obtain ⟨x26_2, rfl, HA, HK2, HO_24, HB⟩ := hrel
     cases gk with
     | zero => exact absurd HA.out (by simp [impl_PatternParts.l0])
     | succ k2 =>
      have H := HA.out; clear HA; simp only [impl_PatternParts.l0] at H
      by_cases c9 : x26_2 < (t1001.length : Int)
      ·rw [if_pos c9] at H; have c9b0 := decide_eq_true c9; clear c9; obtain ⟨c10, H⟩ := is_ H; have c10b0 := decide_eq_true c10; clear c10; obtain ⟨c11, H⟩ := is_ H; have c11b0 := decide_eq_true c11; clear c11; replace H := Option.bind_eq_some_iff.mp H; obtain ⟨⟨t1006, t1007⟩, A120, H⟩ := H; replace H : (if t1007 = true then (some (t1006, true)) else (impl_PatternParts.l0 k2 a1 t1001 (t1001.length : Int) (wrap64 (x26_2 + 1)))) = some (r1, r2) := H; have A12 := am_ A120; clear A120
       by_cases c13 : t1007 = true
       ·subst c13; replace H := it_ H; simp only [Option.some.injEq, Prod.mk.injEq] at H; obtain ⟨rfl, rfl⟩ := H; have p1005 : 0 ≤ (x26_2 : Int) := od_; have q1005 : x26_2 < (t1001.length : Int) := od_; obtain ⟨ad1005, A1005_0, c1005_0, e1005, hx1005_0, hl1005_0, hi1005_0⟩ := at_L18 (Kd.S_reads' HO_24.out).2.2 x26_2 p1005 q1005
        cases e1005
        obtain ⟨ce1005, hce1005, hMe1005, hcc1005⟩ := Kd.S_get HO_24.out [] x26_2 p1005 (by first | exact q1005 | exact od_ | (have e_ := (Kd.S_reads' HO_24.out).1; omega)); obtain ⟨ve1005_0, rfl, ge1005_0⟩ := hMe1005; have hv1005_0 := hcc1005 0 _ rfl; rw [Nat.add_zero, show ((Kd.slice 119 k119)).sz = 1 from rfl, Nat.mul_one] at hv1005_0; replace hv1005_0 := Option.some.inj (hv1005_0.symm.trans hx1005_0); rw [hv1005_0] at ge1005_0; have HL1005_0 := am_ (show Kd.R k119 119 _ _ _ _ (rd_L18 t1001 x26_2) from ge1005_0); clear hv1005_0 ge1005_0; clear hcc1005 hce1005; have HR1005_0 := am_ hi1005_0; have HC1005_0 := am_ hl1005_0; clear hi1005_0 hl1005_0; replace p1005 := eq_true p1005; replace q1005 := eq_true q1005; go_wp2_with (first | ((with_reducible refine gate_callee (f := 104) rfl ?_); refine gl_ 33 Tryz.func104 #[.slice A1005_0 (rd_L18 t1001 x26_2).length c1005_0, .string a1] ?_; (with_reducible refine (impl_parts.calls _ _ (rd_L18 t1001 x26_2) a1 t1006 true _ ?side1 ?side2 A12.out).mono ?_); (case side1 => repeat (first | exact (by repeat (first | (with_reducible exact HR1005_0.out) | (with_reducible refine Kd.C_alloc ?_ _) | (with_reducible refine Kd.C_drewN ?_ _) | (with_reducible refine Kd.C_drew ?_) | exact HR1005_0.out)) | (with_reducible refine Kd.C_alloc ?_ _) | (with_reducible refine Kd.C_drewN ?_ _) | (with_reducible refine Kd.C_drew ?_))); (case side2 => exact HC1005_0.out); rintro e w14 ⟨v1008, rfl, ho0, hb⟩; refine ⟨_, rfl, ?_⟩; have HO1009 := am_ (Kd.R_lower ho0 (below_size bl_)); replace HO_24 := am_ (Kd.S_below (by (with_reducible repeat (first | apply Kd.S_alloc | apply Kd.S_drewN | apply Kd.S_drew)); exact HO_24.out) hb); replace HL1005_0 := am_ (Kd.R_below (ro_ HL1005_0) hb); replace HR1005_0 := am_ (Kd.C_below (by repeat (first | (with_reducible exact HR1005_0.out) | (with_reducible refine Kd.C_alloc ?_ _) | (with_reducible refine Kd.C_drewN ?_ _) | (with_reducible refine Kd.C_drew ?_) | exact HR1005_0.out)) hb); replace HB := am_ (below_step bl_ hb); (try clear hb); (try clear ho0))); go_ret2; exact ⟨_, rf_, by (with_reducible repeat (first | apply Kd.R_alloc | apply Kd.R_drewN | apply Kd.R_drew)); exact HO1009.out, bl_⟩
       ·replace c13 := Bool.eq_false_iff.mpr c13; subst c13; replace H := if_ H; have H' := am_ H; clear H; have p1005 : 0 ≤ (x26_2 : Int) := od_; have q1005 : x26_2 < (t1001.length : Int) := od_; obtain ⟨ad1005, A1005_0, c1005_0, e1005, hx1005_0, hl1005_0, hi1005_0⟩ := at_L18 (Kd.S_reads' HO_24.out).2.2 x26_2 p1005 q1005
        cases e1005
        obtain ⟨ce1005, hce1005, hMe1005, hcc1005⟩ := Kd.S_get HO_24.out [] x26_2 p1005 (by first | exact q1005 | exact od_ | (have e_ := (Kd.S_reads' HO_24.out).1; omega)); obtain ⟨ve1005_0, rfl, ge1005_0⟩ := hMe1005; have hv1005_0 := hcc1005 0 _ rfl; rw [Nat.add_zero, show ((Kd.slice 119 k119)).sz = 1 from rfl, Nat.mul_one] at hv1005_0; replace hv1005_0 := Option.some.inj (hv1005_0.symm.trans hx1005_0); rw [hv1005_0] at ge1005_0; have HL1005_0 := am_ (show Kd.R k119 119 _ _ _ _ (rd_L18 t1001 x26_2) from ge1005_0); clear hv1005_0 ge1005_0; clear hcc1005 hce1005; have HR1005_0 := am_ hi1005_0; have HC1005_0 := am_ hl1005_0; clear hi1005_0 hl1005_0; replace p1005 := eq_true p1005; replace q1005 := eq_true q1005; go_wp2_with (first | ((with_reducible refine gate_callee (f := 104) rfl ?_); refine gl_ 33 Tryz.func104 #[.slice A1005_0 (rd_L18 t1001 x26_2).length c1005_0, .string a1] ?_; (with_reducible refine (impl_parts.calls _ _ (rd_L18 t1001 x26_2) a1 t1006 false _ ?side1 ?side2 A12.out).mono ?_); (case side1 => repeat (first | exact (by repeat (first | (with_reducible exact HR1005_0.out) | (with_reducible refine Kd.C_alloc ?_ _) | (with_reducible refine Kd.C_drewN ?_ _) | (with_reducible refine Kd.C_drew ?_) | exact HR1005_0.out)) | (with_reducible refine Kd.C_alloc ?_ _) | (with_reducible refine Kd.C_drewN ?_ _) | (with_reducible refine Kd.C_drew ?_))); (case side2 => exact HC1005_0.out); rintro e w15 ⟨v1008, rfl, ho0, hb⟩; refine ⟨_, rfl, ?_⟩; have HO1009 := am_ (Kd.R_lower ho0 (below_size bl_)); replace HO_24 := am_ (Kd.S_below (by (with_reducible repeat (first | apply Kd.S_alloc | apply Kd.S_drewN | apply Kd.S_drew)); exact HO_24.out) hb); replace HL1005_0 := am_ (Kd.R_below (ro_ HL1005_0) hb); replace HR1005_0 := am_ (Kd.C_below (by repeat (first | (with_reducible exact HR1005_0.out) | (with_reducible refine Kd.C_alloc ?_ _) | (with_reducible refine Kd.C_drewN ?_ _) | (with_reducible refine Kd.C_drew ?_) | exact HR1005_0.out)) hb); replace HB := am_ (below_step bl_ hb); (try clear hb); (try clear ho0))); go_roundg k2
        case measure => have := HJ3.out; have := HK2.out; omega
        case rel => exact ⟨(wrap64 (x26_2 + 1)), rs_, H', ⟨by have := HJ3.out; have := HK2.out; omega⟩, ⟨by (with_reducible repeat (first | apply Kd.S_alloc | apply Kd.S_drewN | apply Kd.S_drew)); exact HO_24.out⟩, ⟨bl_⟩⟩
      ·rw [if_neg c9] at H; have c9b0 := decide_eq_false c9; clear c9; simp only [Option.some.injEq, Prod.mk.injEq] at H; obtain ⟨rfl, rfl⟩ := H; go_wp2; go_ret2; exact ⟨_, rf_, ni_, bl_⟩

/-! ### impl_PatternFits: function 94 -/
def impl_PatternFits.f (k : Nat) (a0 : ByteArray) (a1 : ByteArray) : Option (Bool) := (impl_PatternParts.f k a0 a1).bind fun bt1001 => (some bt1001.2)
theorem impl_PatternFits.mono : ∀ a0 a1 k, LeO (impl_PatternFits.f k a0 a1) (impl_PatternFits.f (k + 1) a0 a1) := by
 intro a0 a1 k
 unfold impl_PatternFits.f
 repeat' with_reducible first | apply impl_PatternParts.mono | apply LeO.refl | apply LeO.none | apply LeO.ite | refine LeO.bind ?_ (fun _ => ?_)
set_option maxHeartbeats 8000000 in
set_option maxRecDepth 100000 in
theorem impl_PatternFits.calls (k : Nat) (a0 : ByteArray) (a1 : ByteArray) (r : Bool) (w : World) (h : impl_PatternFits.f k a0 a1 = some r) :
  Calls Tryz.prog 94 #[.string a0, .string a1] w fun e w' => e = .returned (.bool r) ∧ Below w.heap.size w w' := by
 have HB := am_ (Below.refl w.heap.size w); have H := h; clear h; unfold impl_PatternFits.f at H; obtain ⟨⟨t1001, t1002⟩, A3, H⟩ := bs_ H; replace H : (some t1002) = some r := H; obtain rfl := si_ H; go_enter Tryz.func94, Tryz.ntmps94; go_wp2_with (first | ((with_reducible refine gate_callee (f := 102) rfl ?_); refine gl_ 10 Tryz.func102 #[.string a0, .string a1] ?_; (with_reducible refine (impl_PatternParts.calls k a0 a1 t1001 t1002 _ A3.out).mono ?_); rintro e w4 ⟨v1003, rfl, ho0, hb⟩; refine ⟨_, rfl, ?_⟩; have HO1004 := am_ (Kd.R_lower ho0 (below_size bl_)); replace HB := am_ (below_step bl_ hb); (try clear hb); (try clear ho0))); go_ret; exact ⟨rf_, bl_⟩

/-! ### impl_fitsOne: function 75 -/
def impl_fitsOne.f (k : Nat) (a0_0 : ByteArray) (a0_1 : Int) (a0_2 : ByteArray) (l1 : List (S79)) : Option (Bool) := (impl_valueOf.f k l1 a0_0).bind fun t1002 => (if a0_1 = 1 then (some (t1002.toList == a0_2.toList)) else (if a0_1 = 2 then (some (t1002.toList != a0_2.toList)) else (if a0_1 = 3 then ((impl_PatternFits.f k a0_2 t1002).bind fun t1003 => (some t1003)) else ((impl_PatternFits.f k a0_2 t1002).bind fun t1004 => (some (!t1004))))))
theorem impl_fitsOne.mono : ∀ a0 a1 a2 a3 k, LeO (impl_fitsOne.f k a0 a1 a2 a3) (impl_fitsOne.f (k + 1) a0 a1 a2 a3) := by
 intro a0 a1 a2 a3 k
 unfold impl_fitsOne.f
 repeat' with_reducible first | apply impl_PatternFits.mono | apply impl_valueOf.mono | apply LeO.refl | apply LeO.none | apply LeO.ite | refine LeO.bind ?_ (fun _ => ?_)
set_option maxHeartbeats 8000000 in
set_option maxRecDepth 100000 in
theorem impl_fitsOne.calls (k : Nat) (a0_0 : ByteArray) (a0_1 : Int) (a0_2 : ByteArray) (A1 : Option Addr) (c1 : Nat) (l1 : List (S79)) (r : Bool) (w : World) (hr1 : Kd.C k79 w A1 l1.length l1) (hc1 : l1.length ≤ c1) (h : impl_fitsOne.f k a0_0 a0_1 a0_2 l1 = some r) :
  Calls Tryz.prog 75 #[.agg #[.string a0_0, .int .i64 a0_1, .string a0_2], .slice A1 l1.length c1] w fun e w' => e = .returned (.bool r) ∧ Below w.heap.size w w' := by
 have hu50 := Tryz.underlying50; have HR1 := am_ hr1; have HC1 := am_ hc1; clear hr1 hc1; have HB := am_ (Below.refl w.heap.size w); have H := h; clear h; unfold impl_fitsOne.f at H; obtain ⟨t1002, A3, H⟩ := bs_ H
 by_cases c4 : a0_1 = 1
 ·rw [if_pos c4] at H; have c4b0 := eb_ c4; have c4b1 := en_ c4; clear c4; obtain rfl := si_ H; go_enter Tryz.func75, Tryz.ntmps75; go_wp2_with (first | ((with_reducible refine gate_dst (N := 2) rfl ?_); refine bx_ 2 #[.string a0_0, .int .i64 a0_1, .string a0_2] 50 ?_; intro gb1001 hg w5 hbox hb; have BK1001 := am_ (hbox); have GW1001 := am_ (gs_ hg : w.heap.size ≤ gb1001); replace HB := am_ (below_step bl_ hb); have GE1001 := GW1001; clear hb hbox hg; have hz6 := bk3_ BK1001) | ((with_reducible refine gate_callee (f := 68) rfl ?_); refine gl_ 9 Tryz.func68 #[.slice A1 l1.length c1, .string a0_0] ?_; (with_reducible refine (impl_valueOf.calls k _ _ l1 a0_0 t1002 _ ?side1 ?side2 A3.out).mono ?_); (case side1 => exact cc_ (Kd.C_below HR1.out HB.out)); (case side2 => exact HC1.out); rintro e w7 ⟨rfl, hb⟩; refine ⟨_, rfl, ?_⟩; replace BK1001 := vb_ BK1001 hb; replace HB := am_ (below_step bg_ hb); (try clear hb); have hz8 := bk3_ BK1001)); go_ret; exact ⟨rf_, bg_⟩
 ·rw [if_neg c4] at H; have c4b0 := nb_ c4; have c4b1 := nn_ c4
  by_cases c9 : a0_1 = 2
  ·rw [if_pos c9] at H; have c9b0 := eb_ c9; have c9b1 := en_ c9; clear c9; obtain rfl := si_ H; go_enter Tryz.func75, Tryz.ntmps75; go_wp2_with (first | ((with_reducible refine gate_dst (N := 2) rfl ?_); refine bx_ 2 #[.string a0_0, .int .i64 a0_1, .string a0_2] 50 ?_; intro gb1001 hg w10 hbox hb; have BK1001 := am_ (hbox); have GW1001 := am_ (gs_ hg : w.heap.size ≤ gb1001); replace HB := am_ (below_step bl_ hb); have GE1001 := GW1001; clear hb hbox hg; have hz11 := bk3_ BK1001) | ((with_reducible refine gate_callee (f := 68) rfl ?_); refine gl_ 9 Tryz.func68 #[.slice A1 l1.length c1, .string a0_0] ?_; (with_reducible refine (impl_valueOf.calls k _ _ l1 a0_0 t1002 _ ?side1 ?side2 A3.out).mono ?_); (case side1 => exact cc_ (Kd.C_below HR1.out HB.out)); (case side2 => exact HC1.out); rintro e w12 ⟨rfl, hb⟩; refine ⟨_, rfl, ?_⟩; replace BK1001 := vb_ BK1001 hb; replace HB := am_ (below_step bg_ hb); (try clear hb); have hz13 := bk3_ BK1001)); go_ret; exact ⟨rf_, bg_⟩
  ·rw [if_neg c9] at H; have c9b0 := nb_ c9; have c9b1 := nn_ c9
   by_cases c14 : a0_1 = 3
   ·rw [if_pos c14] at H; have c14b0 := eb_ c14; have c14b1 := en_ c14; clear c14; obtain ⟨t1003, A15, H⟩ := bs_ H; obtain rfl := si_ H; go_enter Tryz.func75, Tryz.ntmps75; go_wp2_with (first | ((with_reducible refine gate_dst (N := 2) rfl ?_); refine bx_ 2 #[.string a0_0, .int .i64 a0_1, .string a0_2] 50 ?_; intro gb1001 hg w16 hbox hb; have BK1001 := am_ (hbox); have GW1001 := am_ (gs_ hg : w.heap.size ≤ gb1001); replace HB := am_ (below_step bl_ hb); have GE1001 := GW1001; clear hb hbox hg; have hz17 := bk3_ BK1001) | ((with_reducible refine gate_callee (f := 68) rfl ?_); refine gl_ 9 Tryz.func68 #[.slice A1 l1.length c1, .string a0_0] ?_; (with_reducible refine (impl_valueOf.calls k _ _ l1 a0_0 t1002 _ ?side1 ?side2 A3.out).mono ?_); (case side1 => exact cc_ (Kd.C_below HR1.out HB.out)); (case side2 => exact HC1.out); rintro e w18 ⟨rfl, hb⟩; refine ⟨_, rfl, ?_⟩; replace BK1001 := vb_ BK1001 hb; replace HB := am_ (below_step bg_ hb); (try clear hb); have hz19 := bk3_ BK1001) | ((with_reducible refine gate_callee (f := 94) rfl ?_); refine gl_ 29 Tryz.func94 #[.string a0_2, .string t1002] ?_; (with_reducible refine (impl_PatternFits.calls k a0_2 t1002 t1003 _ A15.out).mono ?_); rintro e w20 ⟨rfl, hb⟩; refine ⟨_, rfl, ?_⟩; replace BK1001 := vb_ BK1001 hb; replace HB := am_ (below_step bg_ hb); (try clear hb))); go_ret; exact ⟨rf_, bg_⟩
   ·rw [if_neg c14] at H; have c14b0 := nb_ c14; have c14b1 := nn_ c14; obtain ⟨t1004, A21, H⟩ := bs_ H; obtain rfl := si_ H; go_enter Tryz.func75, Tryz.ntmps75; go_wp2_with (first | ((with_reducible refine gate_dst (N := 2) rfl ?_); refine bx_ 2 #[.string a0_0, .int .i64 a0_1, .string a0_2] 50 ?_; intro gb1001 hg w22 hbox hb; have BK1001 := am_ (hbox); have GW1001 := am_ (gs_ hg : w.heap.size ≤ gb1001); replace HB := am_ (below_step bl_ hb); have GE1001 := GW1001; clear hb hbox hg; have hz23 := bk3_ BK1001) | ((with_reducible refine gate_callee (f := 68) rfl ?_); refine gl_ 9 Tryz.func68 #[.slice A1 l1.length c1, .string a0_0] ?_; (with_reducible refine (impl_valueOf.calls k _ _ l1 a0_0 t1002 _ ?side1 ?side2 A3.out).mono ?_); (case side1 => exact cc_ (Kd.C_below HR1.out HB.out)); (case side2 => exact HC1.out); rintro e w24 ⟨rfl, hb⟩; refine ⟨_, rfl, ?_⟩; replace BK1001 := vb_ BK1001 hb; replace HB := am_ (below_step bg_ hb); (try clear hb); have hz25 := bk3_ BK1001) | ((with_reducible refine gate_callee (f := 94) rfl ?_); refine gl_ 33 Tryz.func94 #[.string a0_2, .string t1002] ?_; (with_reducible refine (impl_PatternFits.calls k a0_2 t1002 t1004 _ A21.out).mono ?_); rintro e w26 ⟨rfl, hb⟩; refine ⟨_, rfl, ?_⟩; replace BK1001 := vb_ BK1001 hb; replace HB := am_ (below_step bg_ hb); (try clear hb))); go_ret; exact ⟨rf_, bg_⟩

/-! ### impl_fits: function 50 -/
def impl_fits.l0 : Nat → List (S79) → List (S50) → Int → Int → Option (Bool)
 | 0, _, _, _, _ => none
 | k + 1, x1, x7, x8, x9 => if x9 < x8 then (if 0 ≤ x9 then (if x9 < (x7.length : Int) then ((impl_fitsOne.f k ((rd_T50 x7 x9).f0) ((rd_T50 x7 x9).f1) ((rd_T50 x7 x9).f2) x1).bind fun t1003 => (if t1003 = true then (impl_fits.l0 k x1 x7 x8 (wrap64 (x9 + 1))) else (some false))) else (none)) else (none)) else (some true)
def impl_fits.f (k : Nat) (l0 : List (S50)) (l1 : List (S79)) : Option (Bool) := impl_fits.l0 k l1 l0 (l0.length : Int) 0
theorem impl_fits.mono_l : ∀ k, (∀ y0 y1 y2 y3, LeO (impl_fits.l0 k y0 y1 y2 y3) (impl_fits.l0 (k + 1) y0 y1 y2 y3))
 | 0 => fun _ _ _ _ r h => by simp [impl_fits.l0] at h
 | k + 1 => by
  have ih0 := impl_fits.mono_l k
  ·intro y0 y1 y2 y3
   unfold impl_fits.l0
   repeat' with_reducible first | apply ih0 | apply impl_fitsOne.mono | apply LeO.refl | apply LeO.none | apply LeO.ite | refine LeO.bind ?_ (fun _ => ?_)
theorem impl_fits.mono : ∀ a0 a1 k, LeO (impl_fits.f k a0 a1) (impl_fits.f (k + 1) a0 a1) := by
 intro a0 a1 k
 have ih0 := impl_fits.mono_l k
 unfold impl_fits.f
 repeat' with_reducible first | apply ih0 | apply impl_fitsOne.mono | apply LeO.refl | apply LeO.none | apply LeO.ite | refine LeO.bind ?_ (fun _ => ?_)
set_option maxHeartbeats 8000000 in
set_option maxRecDepth 100000 in
theorem impl_fits.calls (k : Nat) (A0 : Option Addr) (c0 : Nat) (l0 : List (S50)) (A1 : Option Addr) (c1 : Nat) (l1 : List (S79)) (r : Bool) (w : World) (hr0 : Kd.C k50 w A0 l0.length l0) (hc0 : l0.length ≤ c0) (hr1 : Kd.C k79 w A1 l1.length l1) (hc1 : l1.length ≤ c1) (h : impl_fits.f k l0 l1 = some r) :
  Calls Tryz.prog 50 #[.slice A0 l0.length c0, .slice A1 l1.length c1] w fun e w' => e = .returned (.bool r) ∧ Below w.heap.size w w' := by
 have hu50 := Tryz.underlying50; have HR0 := am_ hr0; have HC0 := am_ hc0; clear hr0 hc0; have HR1 := am_ hr1; have HC1 := am_ hc1; clear hr1 hc1; have HB := am_ (Below.refl w.heap.size w); have H := h; clear h; unfold impl_fits.f at H; have H' := am_ H; clear H; go_enter Tryz.func50, Tryz.ntmps50; go_wp2
 go_loopg [9] k (fun kq v9 w' => ∃ (x9_1 : Int), v9 = .int .i64 x9_1 ∧ Aside0 (impl_fits.l0 kq l1 l0 (l0.length : Int) x9_1 = some r) ∧ Aside0 (kq ≤ k) ∧ Aside0 (Below w.heap.size w w'))
 case atStart => exact ⟨(0), rs_, H', ⟨Nat.le_refl _⟩, ⟨bl_⟩⟩
 case round =>
  clear H'; obtain ⟨x9_1, rfl, HA, HK1, HB⟩ := hrel
  cases gk with
  | zero => exact absurd HA.out (by simp [impl_fits.l0])
  | succ k1 =>
   have H := HA.out; clear HA; simp only [impl_fits.l0] at H
   by_cases c3 : x9_1 < (l0.length : Int)
   ·rw [if_pos c3] at H; have c3b0 := decide_eq_true c3; clear c3; obtain ⟨c4, H⟩ := is_ H; have c4b0 := decide_eq_true c4; clear c4; obtain ⟨c5, H⟩ := is_ H; have c5b0 := decide_eq_true c5; clear c5; obtain ⟨t1003, A6, H⟩ := bs_ H
    by_cases c7 : t1003 = true
    ·subst c7; replace H := it_ H; have H' := am_ H; clear H; have p1001 : 0 ≤ (x9_1 : Int) := od_; have q1001 : x9_1 < (l0.length : Int) := od_; obtain ⟨ad1001, e1001, hx1001_0, hx1001_1, hx1001_2⟩ := at_T50 HR0.out x9_1 p1001 q1001
     cases e1001
     replace hx1001_0 := kp_ HB hx1001_0; replace hx1001_1 := kp_ HB hx1001_1; replace hx1001_2 := kp_ HB hx1001_2; replace p1001 := eq_true p1001; replace q1001 := eq_true q1001; go_wp2_with (first | ((with_reducible refine gate_dst (N := 6) rfl ?_); refine bx_ 6 #[.string (⟨#[]⟩ : ByteArray), .int .i64 0, .string (⟨#[]⟩ : ByteArray)] 50 ?_; intro gb1002 hg w8 hbox hb; have BK1002 := am_ (hbox); have GW1002 := am_ (gs_ hg : w.heap.size ≤ gb1002); replace HB := am_ (below_step bl_ hb); have GE1002 := GW1002; clear hb hbox hg; have hz9 := bk3_ BK1002) | ((with_reducible refine gate_callee (f := 75) rfl ?_); refine gl_ 15 Tryz.func75 #[.agg #[.string ((rd_T50 l0 x9_1).f0), .int .i64 ((rd_T50 l0 x9_1).f1), .string ((rd_T50 l0 x9_1).f2)], .slice A1 l1.length c1] ?_; (with_reducible refine (impl_fitsOne.calls k1 ((rd_T50 l0 x9_1).f0) ((rd_T50 l0 x9_1).f1) ((rd_T50 l0 x9_1).f2) _ _ l1 true _ ?side1 ?side2 A6.out).mono ?_); (case side1 => exact Kd.C_below HR1.out bg_); (case side2 => exact HC1.out); rintro e w10 ⟨rfl, hb⟩; refine ⟨_, rfl, ?_⟩; replace BK1002 := am_ (blk_below (g := gb1002) (o := .cells #[.string ((rd_T50 l0 x9_1).f0), .int .i64 ((rd_T50 l0 x9_1).f1), .string ((rd_T50 l0 x9_1).f2)] 50 (0, 0)) (by (with_reducible repeat (first | refine blk_drewN ?_ _ | refine blk_drew ?_ | refine blk_alloc ?_ _)); refine blk_put (cs := #[.string ((rd_T50 l0 x9_1).f0), .int .i64 ((rd_T50 l0 x9_1).f1), .string (⟨#[]⟩ : ByteArray)]) ?_ 2 _ rfl; (with_reducible repeat (first | refine blk_drewN ?_ _ | refine blk_drew ?_ | refine blk_alloc ?_ _)); refine blk_put (cs := #[.string ((rd_T50 l0 x9_1).f0), .int .i64 0, .string (⟨#[]⟩ : ByteArray)]) ?_ 1 _ rfl; (with_reducible repeat (first | refine blk_drewN ?_ _ | refine blk_drew ?_ | refine blk_alloc ?_ _)); refine blk_put (cs := #[.string (⟨#[]⟩ : ByteArray), .int .i64 0, .string (⟨#[]⟩ : ByteArray)]) ?_ 0 _ rfl; (with_reducible repeat (first | refine blk_drewN ?_ _ | refine blk_drew ?_ | refine blk_alloc ?_ _)); exact BK1002.out) hb); replace HB := am_ (below_step bg_ hb); (try clear hb))); go_roundg k1
     case measure => have := HK1.out; omega
     case rel => exact ⟨(wrap64 (x9_1 + 1)), rs_, H', ⟨by have := HK1.out; omega⟩, ⟨bg_⟩⟩
    ·replace c7 := Bool.eq_false_iff.mpr c7; subst c7; replace H := if_ H; obtain rfl := si_ H; have p1001 : 0 ≤ (x9_1 : Int) := od_; have q1001 : x9_1 < (l0.length : Int) := od_; obtain ⟨ad1001, e1001, hx1001_0, hx1001_1, hx1001_2⟩ := at_T50 HR0.out x9_1 p1001 q1001
     cases e1001
     replace hx1001_0 := kp_ HB hx1001_0; replace hx1001_1 := kp_ HB hx1001_1; replace hx1001_2 := kp_ HB hx1001_2; replace p1001 := eq_true p1001; replace q1001 := eq_true q1001; go_wp2_with (first | ((with_reducible refine gate_dst (N := 6) rfl ?_); refine bx_ 6 #[.string (⟨#[]⟩ : ByteArray), .int .i64 0, .string (⟨#[]⟩ : ByteArray)] 50 ?_; intro gb1002 hg w11 hbox hb; have BK1002 := am_ (hbox); have GW1002 := am_ (gs_ hg : w.heap.size ≤ gb1002); replace HB := am_ (below_step bl_ hb); have GE1002 := GW1002; clear hb hbox hg; have hz12 := bk3_ BK1002) | ((with_reducible refine gate_callee (f := 75) rfl ?_); refine gl_ 15 Tryz.func75 #[.agg #[.string ((rd_T50 l0 x9_1).f0), .int .i64 ((rd_T50 l0 x9_1).f1), .string ((rd_T50 l0 x9_1).f2)], .slice A1 l1.length c1] ?_; (with_reducible refine (impl_fitsOne.calls k1 ((rd_T50 l0 x9_1).f0) ((rd_T50 l0 x9_1).f1) ((rd_T50 l0 x9_1).f2) _ _ l1 false _ ?side1 ?side2 A6.out).mono ?_); (case side1 => exact Kd.C_below HR1.out bg_); (case side2 => exact HC1.out); rintro e w13 ⟨rfl, hb⟩; refine ⟨_, rfl, ?_⟩; replace BK1002 := am_ (blk_below (g := gb1002) (o := .cells #[.string ((rd_T50 l0 x9_1).f0), .int .i64 ((rd_T50 l0 x9_1).f1), .string ((rd_T50 l0 x9_1).f2)] 50 (0, 0)) (by (with_reducible repeat (first | refine blk_drewN ?_ _ | refine blk_drew ?_ | refine blk_alloc ?_ _)); refine blk_put (cs := #[.string ((rd_T50 l0 x9_1).f0), .int .i64 ((rd_T50 l0 x9_1).f1), .string (⟨#[]⟩ : ByteArray)]) ?_ 2 _ rfl; (with_reducible repeat (first | refine blk_drewN ?_ _ | refine blk_drew ?_ | refine blk_alloc ?_ _)); refine blk_put (cs := #[.string ((rd_T50 l0 x9_1).f0), .int .i64 0, .string (⟨#[]⟩ : ByteArray)]) ?_ 1 _ rfl; (with_reducible repeat (first | refine blk_drewN ?_ _ | refine blk_drew ?_ | refine blk_alloc ?_ _)); refine blk_put (cs := #[.string (⟨#[]⟩ : ByteArray), .int .i64 0, .string (⟨#[]⟩ : ByteArray)]) ?_ 0 _ rfl; (with_reducible repeat (first | refine blk_drewN ?_ _ | refine blk_drew ?_ | refine blk_alloc ?_ _)); exact BK1002.out) hb); replace HB := am_ (below_step bg_ hb); (try clear hb))); go_ret; exact ⟨rf_, bg_⟩
   ·rw [if_neg c3] at H; have c3b0 := decide_eq_false c3; clear c3; obtain rfl := si_ H; go_wp2; go_ret; exact ⟨rf_, bl_⟩

/-! ### impl_Sample: function 76 -/
def impl_Sample.l0 (P : S69 → Option Bool) (l0 : List (S69)) : Nat → List (S69) → Int → Option (List (S69))
 | 0, _, _ => none
 | k + 1, x5, x10 => if x10 < (l0.length : Int) then (if 0 ≤ x10 then ((P (⟨(rd_T69 l0 x10).f0, (rd_T69 l0 x10).f1⟩ : S69)).bind fun b => (if b = true then (if x5.length < 8796093022208 then (impl_Sample.l0 P l0 k (x5 ++ [(⟨(rd_T69 l0 x10).f0, (rd_T69 l0 x10).f1⟩ : S69)]) (wrap64 (x10 + 1))) else none) else (impl_Sample.l0 P l0 k x5 (wrap64 (x10 + 1))))) else none) else some x5
def impl_Sample.f (k : Nat) (P : S69 → Option Bool) (l0 : List (S69)) : Option (List (S69)) := impl_Sample.l0 P l0 k [] 0
theorem impl_Sample.mono_l (P P' : S69 → Option Bool) (hP : ∀ x, LeO (P x) (P' x)) (l0 : List (S69)) : ∀ k x5 x10, LeO (impl_Sample.l0 P l0 k x5 x10) (impl_Sample.l0 P' l0 (k + 1) x5 x10)
 | 0, _, _ => LeO.none _
 | k + 1, x5, x10 => by
  have ih := impl_Sample.mono_l P P' hP l0 k
  unfold impl_Sample.l0
  exact LeO.ite (LeO.ite (LeO.bind (hP _) (fun _ => LeO.ite (LeO.ite (ih _ _) (LeO.none _)) (ih _ _))) (LeO.none _)) (LeO.refl _)
theorem impl_Sample.mono (P P' : S69 → Option Bool) (hP : ∀ x, LeO (P x) (P' x)) (l0 : List (S69)) (k : Nat) : LeO (impl_Sample.f k P l0) (impl_Sample.f (k + 1) P' l0) := impl_Sample.mono_l P P' hP l0 k _ _
set_option maxHeartbeats 8000000 in
set_option maxRecDepth 100000 in
theorem impl_Sample.calls (k : Nat) (P : S69 → Option Bool) (g : Nat) (lb : Array Value) (eg : ∀ args w, (callFunc g args).run Tryz.prog w = .ok (.enter g args) w) (A0 : Option Addr) (c0 : Nat) (l0 : List (S69)) (r : List (S69)) (w : World) (hr0 : Kd.C k69 w A0 l0.length l0) (hc0 : l0.length ≤ c0)
  (hP : ∀ (W : World) (x : S69) (b : Bool), Below w.heap.size w W → P x = some b → Calls Tryz.prog g (#[.agg #[.int .i64 (x.f0), .int .i64 (x.f1)]] ++ lb) W fun e w' => e = .returned (.bool b) ∧ Below W.heap.size W w') (h : impl_Sample.f k P l0 = some r) :
  Calls Tryz.prog 76 #[.slice A0 l0.length c0, .func (.func g) #[] lb] w fun e w' => ∃ v0_ : Value, e = .returned (v0_) ∧ Kd.R k69 69 w' w.heap.size (fun _ => True) v0_ r ∧ Below w.heap.size w w' := by
 have hu := Tryz.underlying69
 have HR0 := am_ hr0
 have HC0 := am_ hc0
 clear hr0 hc0
 have HB := am_ (Below.refl w.heap.size w)
 have hP' := am_ hP
 clear hP
 have H' := am_ (show impl_Sample.l0 P l0 k [] 0 = some r from h)
 clear h
 go_enter Tryz.func76, Tryz.ntmps76
 go_wp2
 go_loopg [5, 10] k (fun kq v5 v10 w' => ∃ (x5_1 : List (S69)) (x10_1 : Int), v10 = .int .i64 x10_1 ∧ Aside0 (impl_Sample.l0 P l0 kq x5_1 x10_1 = some r) ∧ Aside0 (Kd.R k69 69 w' w.heap.size (fun _ => True) v5 x5_1) ∧ Aside0 (Below w.heap.size w w'))
 case atStart => exact ⟨[], 0, rs_, H', ⟨ni_⟩, ⟨bl_⟩⟩
 case round =>
  clear H'
  obtain ⟨x5_1, x10_1, rfl, HA, HO_5, HB⟩ := hrel
  cases gk with
  | zero => exact absurd HA.out (by simp [impl_Sample.l0])
  | succ k1 =>
   have H := HA.out
   clear HA
   simp only [impl_Sample.l0] at H
   by_cases c4 : x10_1 < (l0.length : Int)
   ·rw [if_pos c4] at H
    have c4b0 : decide (x10_1 < (l0.length : Int)) = true := decide_eq_true c4
    by_cases c5 : 0 ≤ x10_1
    ·rw [if_pos c5] at H
     have c5b0 : decide (0 ≤ x10_1) = true := decide_eq_true c5
     obtain ⟨b, hb0, H⟩ := Option.bind_eq_some_iff.mp H
     have HP0 := am_ hb0
     clear hb0
     obtain ⟨ad, e_, hx_0, hx_1⟩ := at_T69 HR0.out x10_1 c5 c4
     cases e_
     replace hx_0 := kp_ HB hx_0
     replace hx_1 := kp_ HB hx_1
     have p_ := eq_true c5
     have q_ := eq_true c4
     clear c4 c5
     have HC7 := am_ H
     clear H
     go_upto_region 5 with (first | ((with_reducible refine gate_dst (N := 7) rfl ?_); refine bx_ 7 #[.int .i64 0, .int .i64 0] 69 ?_; intro gb hg w8 hbox hb; have BK := am_ (hbox); have GE := am_ (gs_ hg : w.heap.size ≤ gb); replace HO_5 := am_ (Kd.R_below (Kd.R_elderB (ro_ HO_5) gb (Nat.le_of_eq hg.symm)) hb); replace HB := am_ (below_step bl_ hb); clear hb hbox hg; have hcz1_0 := bc2_0 BK; have hfz1_0 := bf_ BK 0; have hcz1_1 := bc2_1 BK; have hfz1_1 := bf_ BK 1))
     have n0_ : Aside0 (Kd.R k69 69 (((w8).setCell ⟨gb, 0, none⟩ (.int .i64 ((rd_T69 l0 x10_1).f0))).setCell ⟨gb, 1, none⟩ (.int .i64 ((rd_T69 l0 x10_1).f1))) w.heap.size (fun k_ => k_ ≠ gb) u5 x5_1) := ⟨Kd.R_mono (Kd.R_far (p := ⟨gb, 1, none⟩) (Kd.R_far (p := ⟨gb, 0, none⟩) (Kd.R_mono HO_5.out (fun k_ hk => (⟨hk, hk.2⟩ : _ ∧ k_ ≠ gb))) (fun _ hk => hk.2) (.int .i64 ((rd_T69 l0 x10_1).f0))) (fun _ hk => hk.2) (.int .i64 ((rd_T69 l0 x10_1).f1))) (fun _ hk => hk.1.2)⟩
     have n1_ : Aside0 ((((w8).setCell ⟨gb, 0, none⟩ (.int .i64 ((rd_T69 l0 x10_1).f0))).setCell ⟨gb, 1, none⟩ (.int .i64 ((rd_T69 l0 x10_1).f1))).heap[gb]? = some (.cells #[.int .i64 ((rd_T69 l0 x10_1).f0), .int .i64 ((rd_T69 l0 x10_1).f1)] 69 (0, 0))) := ⟨by refine blk_put (cs := #[.int .i64 ((rd_T69 l0 x10_1).f0), .int .i64 0]) ?_ 1 _ rfl; refine blk_put (cs := #[.int .i64 0, .int .i64 0]) ?_ 0 _ rfl; exact BK.out⟩
     have n2_ : Aside0 (Below w.heap.size w (((w8).setCell ⟨gb, 0, none⟩ (.int .i64 ((rd_T69 l0 x10_1).f0))).setCell ⟨gb, 1, none⟩ (.int .i64 ((rd_T69 l0 x10_1).f1)))) := ⟨bg_⟩
     clear HO_5 BK HB
     generalize ((w8).setCell ⟨gb, 0, none⟩ (.int .i64 ((rd_T69 l0 x10_1).f0))).setCell ⟨gb, 1, none⟩ (.int .i64 ((rd_T69 l0 x10_1).f1)) = w9 at n0_ n1_ n2_ ⊢
     have HO_5 := n0_
     have BK := n1_
     have HB := n2_
     clear n0_ n1_ n2_
     have hcz2_0 := bc2_0 BK; have hfz2_0 := bf_ BK 0; have hcz2_1 := bc2_1 BK; have hfz2_1 := bf_ BK 1
     cases b with
     | true =>
      have H := HC7.out
      rw [if_pos rfl] at H
      by_cases c13 : x5_1.length < 8796093022208
      ·rw [if_pos c13] at H
       have LM := am_ c13
       clear c13
       obtain ⟨y, hy⟩ : ∃ y_ : List (S69), y_ = x5_1 ++ [(⟨(rd_T69 l0 x10_1).f0, (rd_T69 l0 x10_1).f1⟩ : S69)] := ⟨_, rfl⟩
       rw [← hy] at H
       have Ny := am_ hy
       clear hy
       have H' := am_ H
       clear H
       go_wp2_with (first | (with_reducible refine Calls.mono (hP'.out w9 (⟨(rd_T69 l0 x10_1).f0, (rd_T69 l0 x10_1).f1⟩ : S69) true HB.out HP0.out) ?_; rintro e w10 ⟨rfl, hb⟩; have n0_ := am_ (Kd.R_below HO_5.out hb); have n1_ := am_ (blk_below BK.out hb); have n2_ := am_ (below_step HB.out hb); clear HO_5 BK HB; have HO_5 := n0_; have BK := n1_; have HB := n2_; clear n0_ n1_ n2_ hb; have hcz3_0 := bc2_0 BK; have hfz3_0 := bf_ BK 0; have hcz3_1 := bc2_1 BK; have hfz3_1 := bf_ BK 1) | ((with_reducible refine gate_builtin (b := .append) (xs := #[.tmp 17, .tmp 19]) rfl ?_); at_builtin; refine Kd.R_append k69 (w0 := w) w.heap.size rfl (.tmp 17) (.tmp 19) 54 69 (.agg #[(.int .i64 0), (.int .i64 0)]) 16 rfl Tryz.underlying54 info69 rfl (by decide) (by omega) u5 x5_1 (⟨(rd_T69 l0 x10_1).f0, (rd_T69 l0 x10_1).f1⟩ : S69) [.int .i64 ((rd_T69 l0 x10_1).f0), .int .i64 ((rd_T69 l0 x10_1).f1)] (fun k_ => k_ ≠ gb) (fun _ => False) rfl rfl ?aP (fun _ hk => hk.elim) ?aF ?aO ?aB ?aS ?aL ?_; (case aP => exact k69_mkM _ _ _ (⟨(rd_T69 l0 x10_1).f0, (rd_T69 l0 x10_1).f1⟩ : S69)); (case aB => exact bg_); (case aF => exact (fun k_ hk => Kd.freshB (g := gb) (o := .cells #[.int .i64 ((rd_T69 l0 x10_1).f0), .int .i64 ((rd_T69 l0 x10_1).f1)] 69 (0, 0)) (vk_ BK) k_ hk)); (case aO => exact (ro_ HO_5)); (case aS => exact (below_size bg_)); (case aL => have := LM.out; omega); intro v20 w12 ho hb hg hat; rw [← Ny.out] at ho; have n1_ := am_ (hb); have n2_ := am_ (ho); clear HB; clear HO_5; have HB := n1_; have HO_5 := n2_; clear n1_ n2_; clear ho hb hg hat))
       go_roundg k1
       case measure => omega
       case rel => exact ⟨y, (wrap64 (x10_1 + 1)), rs_, H', ⟨by (with_reducible repeat (first | apply Kd.R_alloc | apply Kd.R_drewN | apply Kd.R_drew)); exact Kd.R_mono HO_5.out (fun _ hk => trivial)⟩, ⟨bg_⟩⟩
      ·rw [if_neg c13] at H
       exact absurd H (by simp)
     | false =>
      have H' : Aside0 (impl_Sample.l0 P l0 k1 x5_1 (wrap64 (x10_1 + 1)) = some r) := ⟨by have H := HC7.out; rw [if_neg (show ¬ (false = true) by decide)] at H; exact H⟩
      go_wp2_with (first | (with_reducible refine Calls.mono (hP'.out w9 (⟨(rd_T69 l0 x10_1).f0, (rd_T69 l0 x10_1).f1⟩ : S69) false HB.out HP0.out) ?_; rintro e w10 ⟨rfl, hb⟩; have n0_ := am_ (Kd.R_below HO_5.out hb); have n2_ := am_ (below_step HB.out hb); clear HO_5 BK HB; have HO_5 := n0_; have HB := n2_; clear n0_ n2_ hb))
      go_roundg k1
      case measure => omega
      case rel => exact ⟨x5_1, (wrap64 (x10_1 + 1)), rs_, H', ⟨by (with_reducible repeat (first | apply Kd.R_alloc | apply Kd.R_drewN | apply Kd.R_drew)); exact Kd.R_mono HO_5.out (fun _ hk => trivial)⟩, ⟨bl_⟩⟩
    ·rw [if_neg c5] at H
     exact absurd H (by simp)
   ·rw [if_neg c4] at H
    have c4b0 : decide (x10_1 < (l0.length : Int)) = false := decide_eq_false c4
    clear c4
    obtain rfl := Option.some.inj H
    go_wp2
    go_ret
    exact ⟨_, rf_, HO_5.out, bl_⟩

/-! ### impl_cut: function 51 -/
set_option maxHeartbeats 4000000 in
theorem impl_cut_1.calls (x : S69) (a1 a2 : Int) (gn gm : Nat) (b : Bool) (w : World) (hc1 : w.cell? ⟨gn, 0, none⟩ = some (.int .i64 a1)) (hc2 : w.cell? ⟨gm, 0, none⟩ = some (.int .i64 a2)) (h : (decide (x.f0 ≥ a1) && decide (x.f0 ≤ a2)) = b) :
  Calls Tryz.prog 77 #[.agg #[.int .i64 (x.f0), .int .i64 (x.f1)], .pointer (some ⟨gn, 0, none⟩), .pointer (some ⟨gm, 0, none⟩)] w fun e w' => e = .returned (.bool b) ∧ Below w.heap.size w w' := by
 have hu := Tryz.underlying69
 have HB := am_ (Below.refl w.heap.size w)
 have HX := am_ hc1
 have HY := am_ hc2
 clear hc1 hc2
 by_cases h1 : a1 ≤ x.f0
 ·have g1 : decide (a1 ≤ x.f0) = true := decide_eq_true h1
  by_cases h2 : x.f0 ≤ a2
  ·have g2 : decide (x.f0 ≤ a2) = true := decide_eq_true h2
   obtain rfl : b = true := by rw [← h, decide_eq_true (show x.f0 ≥ a1 from h1), decide_eq_true h2]; rfl
   clear h h1 h2
   go_enter Tryz.func77, Tryz.ntmps77
   go_wp2_with (first | ((with_reducible refine gate_dst (N := 3) rfl ?_); refine bx_ 3 #[.int .i64 (x.f0), .int .i64 (x.f1)] 69 ?_; intro gb hg w8 hbox hb; have n1_ := am_ (below_step bl_ hb); have BK := am_ hbox; clear HB; have HB := n1_; clear n1_ hb hbox hg; have hcx := kp_ HB HX.out; have hcy := kp_ HB HY.out; have hcz1_0 := bc2_0 BK; have hcz1_1 := bc2_1 BK; have hfz1_0 := bf_ BK 0; have hfz1_1 := bf_ BK 1))
   go_ret
   exact ⟨rf_, bl_⟩
  ·have g2 : decide (x.f0 ≤ a2) = false := decide_eq_false h2
   obtain rfl : b = false := by rw [← h, decide_eq_false h2, Bool.and_false]
   clear h h1 h2
   go_enter Tryz.func77, Tryz.ntmps77
   go_wp2_with (first | ((with_reducible refine gate_dst (N := 3) rfl ?_); refine bx_ 3 #[.int .i64 (x.f0), .int .i64 (x.f1)] 69 ?_; intro gb hg w8 hbox hb; have n1_ := am_ (below_step bl_ hb); have BK := am_ hbox; clear HB; have HB := n1_; clear n1_ hb hbox hg; have hcx := kp_ HB HX.out; have hcy := kp_ HB HY.out; have hcz1_0 := bc2_0 BK; have hcz1_1 := bc2_1 BK; have hfz1_0 := bf_ BK 0; have hfz1_1 := bf_ BK 1))
   go_ret
   exact ⟨rf_, bl_⟩
 ·have g1 : decide (a1 ≤ x.f0) = false := decide_eq_false h1
  obtain rfl : b = false := by rw [← h, decide_eq_false (show ¬ x.f0 ≥ a1 from h1), Bool.false_and]
  clear h h1
  go_enter Tryz.func77, Tryz.ntmps77
  go_wp2_with (first | ((with_reducible refine gate_dst (N := 3) rfl ?_); refine bx_ 3 #[.int .i64 (x.f0), .int .i64 (x.f1)] 69 ?_; intro gb hg w8 hbox hb; have n1_ := am_ (below_step bl_ hb); have BK := am_ hbox; clear HB; have HB := n1_; clear n1_ hb hbox hg; have hcx := kp_ HB HX.out; have hcy := kp_ HB HY.out; have hcz1_0 := bc2_0 BK; have hcz1_1 := bc2_1 BK; have hfz1_0 := bf_ BK 0; have hfz1_1 := bf_ BK 1))
  go_ret
  exact ⟨rf_, bl_⟩
def impl_cut.f (k : Nat) (l0 : List (S69)) (a1 a2 : Int) : Option (List (S69)) := impl_Sample.f k (fun x => some (decide (x.f0 ≥ a1) && decide (x.f0 ≤ a2))) l0
theorem impl_cut.mono : ∀ a0 a1 a2 k, LeO (impl_cut.f k a0 a1 a2) (impl_cut.f (k + 1) a0 a1 a2) := by
 intro a0 a1 a2 k
 exact impl_Sample.mono _ _ (fun _ => LeO.refl _) a0 k
set_option maxHeartbeats 4000000 in
theorem impl_cut.calls (k : Nat) (A0 : Option Addr) (c0 : Nat) (l0 : List (S69)) (a1 : Int) (a2 : Int) (r : List (S69)) (w : World) (hr0 : Kd.C k69 w A0 l0.length l0) (hc0 : l0.length ≤ c0) (h : impl_cut.f k l0 a1 a2 = some r) :
  Calls Tryz.prog 51 #[.slice A0 l0.length c0, .int .i64 a1, .int .i64 a2] w fun e w' => ∃ v0_ : Value, e = .returned (v0_) ∧ Kd.R k69 69 w' w.heap.size (fun _ => True) v0_ r ∧ Below w.heap.size w w' := by
 have HR0 := am_ hr0
 clear hr0
 have HB := am_ (Below.refl w.heap.size w)
 go_enter Tryz.func51, Tryz.ntmps51
 go_wp2_with (first | ((with_reducible refine gate_dst (N := 4) rfl ?_); refine bx_ 4 #[.int .i64 a1] 3 ?_; intro gb hg w8 hbox hb; have n1_ := am_ (below_step bl_ hb); have BK := am_ hbox; clear HB; have HB := n1_; clear n1_ hb hbox hg) | ((with_reducible refine gate_dst (N := 5) rfl ?_); refine bx_ 5 #[.int .i64 a2] 3 ?_; intro gb2 hg w9 hbox hb; have n1_ := am_ (below_step bl_ hb); have n2_ := am_ (blk_below (g := gb) BK.out hb); have BK2 := am_ hbox; clear HB BK; have HB := n1_; have BK := n2_; clear n1_ n2_ hb hbox hg) | (go_at_call 76; refine (impl_Sample.calls k _ 77 #[.pointer (some ⟨gb, 0, none⟩), .pointer (some ⟨gb2, 0, none⟩)] (fun args w => enters_ Tryz.func77 (by kernel_rfl) rfl args w) A0 c0 l0 r w9 (Kd.C_below HR0.out HB.out) hc0 ?hP h).mono ?_; (case hP => intro W x b hW hx; exact impl_cut_1.calls x a1 a2 gb gb2 b W (kp_ ⟨hW⟩ (bc1_0 BK)) (kp_ ⟨hW⟩ (bc1_0 BK2)) (Option.some.inj hx)); rintro e w10 ⟨v0, rfl, ho, hb⟩; have n0_ := am_ (Kd.R_lower ho (below_size HB.out)); have n1_ := am_ (below_step HB.out hb); clear HB; have HO := n0_; have HB := n1_; clear n0_ n1_ hb ho))
 go_ret
 exact ⟨_, rf_, HO.out, bl_⟩

/-! ### impl_Label: function 52 -/
def impl_Label.f (l0 : List (S79)) : Option (List (S79)) := if l0.length ≤ 4398046510976 then some l0 else none
set_option maxHeartbeats 4000000 in
theorem impl_Label.calls (A0 : Option Addr) (c0 : Nat) (l0 : List (S79)) (r : List (S79)) (w : World) (hr0 : Kd.C k79 w A0 l0.length l0) (hc0 : l0.length ≤ c0) (h : impl_Label.f l0 = some r) :
  Calls Tryz.prog 52 #[.slice A0 l0.length c0] w fun e w' => ∃ v0_ : Value, e = .returned (v0_) ∧ Kd.R k79 79 w' w.heap.size (fun _ => True) v0_ r ∧ Below w.heap.size w w' := by
 have HR0 := am_ hr0
 have HC0 := am_ hc0
 clear hr0 hc0
 have HB := am_ (Below.refl w.heap.size w)
 unfold impl_Label.f at h
 split at h
 ·rename_i hlim
  obtain rfl := Option.some.inj h
  have HL := am_ hlim
  clear hlim
  cases A0 with
  | none =>
   have hl : l0 = [] := by
    rcases Nat.eq_zero_or_pos l0.length with h0 | h0
    ·exact List.eq_nil_of_length_eq_zero h0
    ·obtain ⟨ad, h1, _⟩ := HR0.out.2.2 h0
     cases h1
   subst hl
   have hnil : ∀ W : World, (binOp .eql 53 (.slice none 0 c0) (.slice none 0 0)).run Tryz.prog W = .ok (.bool true) W := fun W => Go.Lib.run_eql_slice_nil W 53 79 none 0 c0 0 0 Tryz.underlying53
   go_enter Tryz.func52, Tryz.ntmps52
   go_wp2
   go_ret
   exact ⟨_, rfl, Kd.R_nil _ _ _ _ _, HB.out⟩
  | some a =>
   have hnil : ∀ W : World, (binOp .eql 53 (.slice (some a) l0.length c0) (.slice none 0 0)).run Tryz.prog W = .ok (.bool false) W := fun W => Go.Lib.run_eql_slice_nil W 53 79 (some a) l0.length c0 0 0 Tryz.underlying53
   go_enter Tryz.func52, Tryz.ntmps52
   go_wp2_with (first | ((with_reducible refine gate_dst (N := 5) rfl ?_); refine Kd.R_lit k79 _ 79 ?hg (N := 5) ?hd (xs := ([] : List (S79))) (inner := []) (ok := fun _ => True) (okp := fun _ => True) ?hr ?hp (fun _ hk => hk) trivial (Below.refl _ _) (Nat.le_refl _) (by simp) ?_; (case hd => rfl); (case hg => rfl); (case hr => first | (go_simp; done) | (go_simp; rfl)); (case hp => exact Reps.none _ _); intro v5 w5 ho5 hb5 hg_ hnew_; have HO5 := am_ (Kd.R_lower ho5 (below_size bl_)); have n1_ := am_ (below_step bl_ hb5); clear HB; have HB := n1_; clear n1_ hb5 ho5 hg_ hnew_) | (at_builtin; refine Kd.R_append_rows k79 (w0 := w) w.heap.size rfl (.tmp 5) (.tmp 6) 53 79 (.agg #[(.string ⟨#[]⟩), (.string ⟨#[]⟩)]) 32 rfl Tryz.underlying53 info79 rfl (by decide) (by omega) v5 ([] : List (S79)) l0 (some a) _ _ (fun _ => True) (fun _ => False) rfl rfl ?aO ?aR (fun _ _ h => h) (fun _ h => h.elim) ?aF ?aB ?aS ?aL ?_; (case aR => exact Kd.C_below HR0.out HB.out); (case aB => exact bl_); (case aF => exact (fun _ _ => trivial)); (case aO => exact HO5.out); (case aS => exact (below_size bl_)); (case aL => have := HL.out; simp only [List.length_nil]; omega); intro v7 w7 ho hb hg hat; have HO7 := am_ ho; clear HB; have HB := am_ hb; clear ho hb hg hat))
   go_ret
   exact ⟨_, rfl, HO7.out, HB.out⟩
 ·cases h

/-! ### impl_selectSeries: function 26 -/
def impl_selectSeries.l0 : Nat → List (S50) → Int → Int → List (S56) → List (S56) → Int → Int → Option ((List (S56)))
 | 0, _, _, _, _, _, _, _ => none
 | k + 1, x1, x2, x3, x9, x13, x14, x15 => if x15 < x14 then (if 0 ≤ x15 then (if x15 < (x13.length : Int) then ((impl_fits.f k x1 ((rd_T56 x13 x15).f0)).bind fun t1003 => (if t1003 = true then ((impl_cut.f k ((rd_T56 x13 x15).f1) x2 x3).bind fun t1004 => (if (t1004.length : Int) > 0 then ((impl_Label.f ((rd_T56 x13 x15).f0)).bind fun t1007 => (if x9.length < 2932031007402 then (impl_selectSeries.l0 k x1 x2 x3 (x9 ++ [(⟨t1007, t1004⟩ : S56)]) x13 x14 (wrap64 (x15 + 1))) else (none))) else (impl_selectSeries.l0 k x1 x2 x3 x9 x13 x14 (wrap64 (x15 + 1))))) else (impl_selectSeries.l0 k x1 x2 x3 x9 x13 x14 (wrap64 (x15 + 1))))) else (none)) else (none)) else (some x9)
def impl_selectSeries.f (k : Nat) (l0 : List (S56)) (l1 : List (S50)) (a2 : Int) (a3 : Int) : Option ((List (S56))) := impl_selectSeries.l0 k l1 a2 a3 ([] : List (S56)) l0 (l0.length : Int) 0
theorem impl_selectSeries.mono_l : ∀ k, (∀ y0 y1 y2 y3 y4 y5 y6, LeO (impl_selectSeries.l0 k y0 y1 y2 y3 y4 y5 y6) (impl_selectSeries.l0 (k + 1) y0 y1 y2 y3 y4 y5 y6))
 | 0 => fun _ _ _ _ _ _ _ r h => by simp [impl_selectSeries.l0] at h
 | k + 1 => by
  have ih0 := impl_selectSeries.mono_l k
  ·intro y0 y1 y2 y3 y4 y5 y6
   unfold impl_selectSeries.l0
   repeat' with_reducible first | apply ih0 | apply impl_cut.mono | apply impl_fits.mono | apply LeO.refl | apply LeO.none | apply LeO.ite | refine LeO.bind ?_ (fun _ => ?_)
theorem impl_selectSeries.mono : ∀ a0 a1 a2 a3 k, LeO (impl_selectSeries.f k a0 a1 a2 a3) (impl_selectSeries.f (k + 1) a0 a1 a2 a3) := by
 intro a0 a1 a2 a3 k
 have ih0 := impl_selectSeries.mono_l k
 unfold impl_selectSeries.f
 repeat' with_reducible first | apply ih0 | apply impl_cut.mono | apply impl_fits.mono | apply LeO.refl | apply LeO.none | apply LeO.ite | refine LeO.bind ?_ (fun _ => ?_)
set_option maxHeartbeats 8000000 in
set_option maxRecDepth 100000 in
theorem impl_selectSeries.calls (k : Nat) (A0 : Option Addr) (c0 : Nat) (l0 : List (S56)) (A1 : Option Addr) (c1 : Nat) (l1 : List (S50)) (a2 : Int) (a3 : Int) (r : List (S56)) (w : World) (hr0 : Kd.C k56 w A0 l0.length l0) (hc0 : l0.length ≤ c0) (hr1 : Kd.C k50 w A1 l1.length l1) (hc1 : l1.length ≤ c1) (h : impl_selectSeries.f k l0 l1 a2 a3 = some r) :
  Calls Tryz.prog 26 #[.slice A0 l0.length c0, .slice A1 l1.length c1, .int .i64 a2, .int .i64 a3] w fun e w' => ∃ v0_ : Value, e = .returned (v0_) ∧ Kd.S k56 56 w' w.heap.size (fun _ => True) v0_ r ∧ Below w.heap.size w w' := by
 have hu56 := Tryz.underlying56; have HR0 := am_ hr0; have HC0 := am_ hc0; clear hr0 hc0; have HR1 := am_ hr1; have HC1 := am_ hc1; clear hr1 hc1; have HB := am_ (Below.refl w.heap.size w); have H := h; clear h; unfold impl_selectSeries.f at H; have H' := am_ H; clear H; go_enter Tryz.func26, Tryz.ntmps26; go_wp2
 go_loopg [9, 15] k (fun kq v9 v15 w' => ∃ (x9_1 : List (S56)) (x15_1 : Int), v15 = .int .i64 x15_1 ∧ Aside0 (impl_selectSeries.l0 kq l1 a2 a3 x9_1 l0 (l0.length : Int) x15_1 = some r) ∧ Aside0 (kq ≤ k) ∧ Aside0 (Kd.S k56 56 w' w.heap.size (fun _ => True) v9 x9_1) ∧ Aside0 (Below w.heap.size w w'))
 case atStart => exact ⟨(([] : List (S56))), (0), rs_, H', ⟨Nat.le_refl _⟩, ⟨by first | exact Kd.S_nil _ _ _ _ _ | exact Kd.N_nil _ _ _ _ _ | exact Kd.V_nil _ _ _ _ _ | exact Kd.Q_nil _ _ _ _ _ | exact Kd.R_nil _ _ _ _ _⟩, ⟨bl_⟩⟩
 case round =>
  clear H'; obtain ⟨x9_1, x15_1, rfl, HA, HK1, HO_9, HB⟩ := hrel
  cases gk with
  | zero => exact absurd HA.out (by simp [impl_selectSeries.l0])
  | succ k1 =>
   have H := HA.out; clear HA; simp only [impl_selectSeries.l0] at H
   by_cases c5 : x15_1 < (l0.length : Int)
   ·rw [if_pos c5] at H; have c5b0 := decide_eq_true c5; clear c5; obtain ⟨c6, H⟩ := is_ H; have c6b0 := decide_eq_true c6; clear c6; obtain ⟨c7, H⟩ := is_ H; have c7b0 := decide_eq_true c7; clear c7; obtain ⟨t1003, A8, H⟩ := bs_ H
    by_cases c9 : t1003 = true
    ·subst c9; replace H := it_ H; obtain ⟨t1004, A10, H⟩ := bs_ H
     by_cases c11 : (t1004.length : Int) > 0
     ·rw [if_pos c11] at H; have c11b0 := dg_ c11; have c11b1 : decide (0 < t1004.length) = true := decide_eq_true (by omega); have c11b2 : 0 < t1004.length := by omega
      clear c11; obtain ⟨t1007, A12, H⟩ := bs_ H; obtain ⟨c13, H⟩ := is_ H; have LMc13 := am_ c13; clear c13; obtain ⟨y1010, hy1010⟩ : ∃ y_ : List (S56), y_ = (x9_1 ++ [(⟨t1007, t1004⟩ : S56)]) := ⟨_, rfl⟩; replace H : (impl_selectSeries.l0 k1 l1 a2 a3 y1010 l0 (l0.length : Int) (wrap64 (x15_1 + 1))) = some r := by first | (rw [hy1010]; with_reducible exact H) | (have H2_ := (Option.bind_some _ _).symm.trans H; rw [hy1010]; with_reducible exact H2_) | (have H2_ := (Option.bind_some _ _).symm.trans H; with_reducible exact H2_) | with_reducible exact H | (rw [hy1010]; exact H) | exact H
      have Ny1010 := am_ hy1010; clear hy1010; have H' := am_ H; clear H; have p1001 : 0 ≤ (x15_1 : Int) := od_; have q1001 : x15_1 < (l0.length : Int) := od_; obtain ⟨ad1001, A1001_0, c1001_0, A1001_1, c1001_1, e1001, hx1001_0, hx1001_1, hl1001_0, hi1001_0, hl1001_1, hi1001_1⟩ := at_T56 HR0.out x15_1 p1001 q1001
      cases e1001
      replace hx1001_0 := kp_ HB hx1001_0; replace hx1001_1 := kp_ HB hx1001_1; have HR1001_0 := am_ hi1001_0; have HC1001_0 := am_ hl1001_0; clear hi1001_0 hl1001_0; have HR1001_1 := am_ hi1001_1; have HC1001_1 := am_ hl1001_1; clear hi1001_1 hl1001_1; replace p1001 := eq_true p1001; replace q1001 := eq_true q1001; go_wp2_with (first | ((with_reducible refine gate_dst (N := 11) rfl ?_); refine bx_ 11 #[.slice none 0 0, .slice none 0 0] 56 ?_; intro gb1002 hg w14 hbox hb; have BK1002 := am_ (hbox); have GW1002 := am_ (gs_ hg : w.heap.size ≤ gb1002); replace HO_9 := am_ (Kd.S_below (Kd.S_elderB (by (with_reducible repeat (first | apply Kd.S_alloc | apply Kd.S_drewN | apply Kd.S_drew)); exact HO_9.out) gb1002 (Nat.le_of_eq hg.symm)) hb); replace HB := am_ (below_step bl_ hb); have GE1002 := GW1002; clear hb hbox hg; have hz15 := bk2_ BK1002) | ((with_reducible refine gate_callee (f := 50) rfl ?_); refine gl_ 22 Tryz.func50 #[.slice A1 l1.length c1, .slice A1001_0 ((rd_T56 l0 x15_1).f0).length c1001_0] ?_; (with_reducible refine (impl_fits.calls k1 _ _ l1 _ _ ((rd_T56 l0 x15_1).f0) true _ ?side1 ?side2 ?side3 ?side4 A8.out).mono ?_); (case side1 => exact Kd.C_below HR1.out bg_); (case side2 => exact HC1.out); (case side3 => exact Kd.C_below HR1001_0.out bg_); (case side4 => exact HC1001_0.out); rintro e w16 ⟨rfl, hb⟩; refine ⟨_, rfl, ?_⟩; replace HO_9 := am_ (Kd.S_below (by (with_reducible repeat (first | apply Kd.S_alloc | apply Kd.S_drewN | apply Kd.S_drew)); exact (Kd.S_mono (Kd.S_far (p := ⟨gb1002, 1, none⟩) (Kd.S_far (p := ⟨gb1002, 0, none⟩) (Kd.S_mono HO_9.out (fun k_ hk => (⟨hk, hk.2⟩ : _ ∧ k_ ≠ gb1002))) (fun _ hk => hk.2) (.slice A1001_0 ((rd_T56 l0 x15_1).f0).length c1001_0)) (fun _ hk => hk.2) (.slice A1001_1 ((rd_T56 l0 x15_1).f1).length c1001_1)) (fun _ h_ => h_.1))) hb); replace BK1002 := am_ (blk_below (g := gb1002) (o := .cells #[.slice A1001_0 ((rd_T56 l0 x15_1).f0).length c1001_0, .slice A1001_1 ((rd_T56 l0 x15_1).f1).length c1001_1] 56 (0, 0)) (by (with_reducible repeat (first | refine blk_drewN ?_ _ | refine blk_drew ?_ | refine blk_alloc ?_ _)); refine blk_put (cs := #[.slice A1001_0 ((rd_T56 l0 x15_1).f0).length c1001_0, .slice none 0 0]) ?_ 1 _ rfl; (with_reducible repeat (first | refine blk_drewN ?_ _ | refine blk_drew ?_ | refine blk_alloc ?_ _)); refine blk_put (cs := #[.slice none 0 0, .slice none 0 0]) ?_ 0 _ rfl; (with_reducible repeat (first | refine blk_drewN ?_ _ | refine blk_drew ?_ | refine blk_alloc ?_ _)); exact BK1002.out) hb); replace HB := am_ (below_step bg_ hb); (try clear hb); have hz17 := bk2_ BK1002) | ((with_reducible refine gate_callee (f := 51) rfl ?_); refine gl_ 28 Tryz.func51 #[.slice A1001_1 ((rd_T56 l0 x15_1).f1).length c1001_1, .int .i64 a2, .int .i64 a3] ?_; (with_reducible refine (impl_cut.calls k1 _ _ ((rd_T56 l0 x15_1).f1) a2 a3 t1004 _ ?side1 ?side2 A10.out).mono ?_); (case side1 => exact cc_ (Kd.C_below HR1001_1.out HB.out)); (case side2 => exact HC1001_1.out); rintro e w18 ⟨v1005, rfl, ho0, hb⟩; refine ⟨_, rfl, ?_⟩; have HO1006 := am_ (Kd.R_lower ho0 (below_size bg_)); replace HO_9 := am_ (Kd.S_elder' (by (with_reducible repeat (first | apply Kd.S_alloc | apply Kd.S_drewN | apply Kd.S_drew)); exact HO_9.out) (Kd.R_base ho0) hb); replace BK1002 := vb_ BK1002 hb; replace HB := am_ (below_step bg_ hb); (try clear hb); (try clear ho0); obtain ⟨Ao19, co19, eo19⟩ := Kd.R_slice HO1006.out; subst eo19; have hz20 := bk2_ BK1002) | ((with_reducible refine gate_callee (f := 52) rfl ?_); refine gl_ 35 Tryz.func52 #[.slice A1001_0 ((rd_T56 l0 x15_1).f0).length c1001_0] ?_; (with_reducible refine (impl_Label.calls _ _ ((rd_T56 l0 x15_1).f0) t1007 _ ?side1 ?side2 A12.out).mono ?_); (case side1 => exact cc_ (Kd.C_below HR1001_0.out HB.out)); (case side2 => exact HC1001_0.out); rintro e w21 ⟨v1008, rfl, ho0, hb⟩; refine ⟨_, rfl, ?_⟩; have HO1009 := am_ (Kd.R_lower ho0 (below_size bg_)); replace HO_9 := am_ (Kd.S_elder' (by (with_reducible repeat (first | apply Kd.S_alloc | apply Kd.S_drewN | apply Kd.S_drew)); exact HO_9.out) (Kd.R_base ho0) hb); replace HO1006 := am_ (Kd.R_below (ro_ HO1006) hb); replace BK1002 := vb_ BK1002 hb; replace HB := am_ (below_step bg_ hb); (try clear hb); (try clear ho0); obtain ⟨Ao22, co22, eo22⟩ := Kd.R_slice HO1009.out; subst eo22) | ((with_reducible refine gate_builtin (b := .append) (xs := #[.tmp 32, .tmp 38]) rfl ?_); at_builtin; refine Kd.S_append k56 (w0 := w) w.heap.size rfl (.tmp 32) (.tmp 38) 28 56 (.agg #[(.slice none 0 0), (.slice none 0 0)]) 48 rfl Tryz.underlying28 info56 rfl (by decide) (by omega) u9 x9_1 (⟨t1007, t1004⟩ : S56) [.slice Ao22 t1007.length co22, .slice Ao19 t1004.length co19] (fun k_ => k_ ≠ gb1002) (fun k_ => some k_ = (.slice Ao22 t1007.length co22 : Value).ownBlock ∨ some k_ = (.slice Ao19 t1004.length co19 : Value).ownBlock) rfl rfl ?aP (fun k_ hk_ => hk_.elim (fun h_ => ((Kd.R_mono (ok' := fun k_ => ((fun k_ => k_ ≠ gb1002)) k_ ∧ some k_ ≠ (u9 : Value).ownBlock) (Kd.R_types (Kd.R_apart' (HO1009.out) (Kd.S_typed HO_9.out) (by decide)) BK1002.out (by decide)) (fun k_ hk => ⟨hk.2, hk.1.2⟩))).1 k_ h_.symm) (fun h_ => ((Kd.R_mono (ok' := fun k_ => ((fun k_ => k_ ≠ gb1002)) k_ ∧ some k_ ≠ (u9 : Value).ownBlock) (Kd.R_types (Kd.R_apart' (HO1006.out) (Kd.S_typed HO_9.out) (by decide)) BK1002.out (by decide)) (fun k_ hk => ⟨hk.2, hk.1.2⟩))).1 k_ h_.symm)) ?aF ?aO ?aB ?aS ?aL ?_; (case aP => exact k56_mkM _ _ _ (⟨t1007, t1004⟩ : S56) (Kd.R_mono (Kd.R_tight rfl (Kd.R_mono (ok' := fun k_ => ((fun k_ => k_ ≠ gb1002)) k_ ∧ some k_ ≠ (u9 : Value).ownBlock) (Kd.R_types (Kd.R_apart' (HO1009.out) (Kd.S_typed HO_9.out) (by decide)) BK1002.out (by decide)) (fun k_ hk => ⟨hk.2, hk.1.2⟩))) (fun _ h_ => Or.inl h_)) (Kd.R_mono (Kd.R_tight rfl (Kd.R_mono (ok' := fun k_ => ((fun k_ => k_ ≠ gb1002)) k_ ∧ some k_ ≠ (u9 : Value).ownBlock) (Kd.R_types (Kd.R_apart' (HO1006.out) (Kd.S_typed HO_9.out) (by decide)) BK1002.out (by decide)) (fun k_ hk => ⟨hk.2, hk.1.2⟩))) (fun _ h_ => Or.inr (h_)))); (case aB => exact bg_); (case aF => exact (fun k_ hk => Kd.freshB (g := gb1002) (o := .cells #[.slice A1001_0 ((rd_T56 l0 x15_1).f0).length c1001_0, .slice A1001_1 ((rd_T56 l0 x15_1).f1).length c1001_1] 56 (0, 0)) (vk_ BK1002) k_ hk)); (case aO => exact (by (with_reducible repeat (first | apply Kd.S_alloc | apply Kd.S_drewN | apply Kd.S_drew)); exact Kd.S_mono HO_9.out (fun k_ hk => ⟨hk.1.1.2, fun e_ => e_.elim (fun h_ => hk.2 h_) (fun h_ => hk.1.2 h_)⟩))); (case aS => exact (below_size bg_)); (case aL => have := LMc13.out; omega); intro v1011 w23 ho hb hg hat; rw [← Ny1010.out] at ho; have n0_ := am_ (blk_grown (g := gb1002) (o := .cells #[.slice A1001_0 ((rd_T56 l0 x15_1).f0).length c1001_0, .slice A1001_1 ((rd_T56 l0 x15_1).f1).length c1001_1] 56 (0, 0)) (vk_ BK1002) hg (Kd.S_away HO_9.out (fun _ hk => hk.1.1.2))); have n1_ := am_ (hb); have n2_ := am_ (ho); clear BK1002; clear HB; clear HO_9; clear HO1006; clear HO1009; have BK1002 := n0_; have HB := n1_; have HO1012 := n2_; clear n0_ n1_ n2_; clear ho hb hg hat)); go_roundg k1
      case measure => have := HK1.out; omega
      case rel => exact ⟨(y1010), (wrap64 (x15_1 + 1)), rs_, H', ⟨by have := HK1.out; omega⟩, ⟨by (with_reducible repeat (first | apply Kd.S_alloc | apply Kd.S_drewN | apply Kd.S_drew)); exact Kd.S_mono HO1012.out (fun _ hk => trivial)⟩, ⟨bg_⟩⟩
     ·rw [if_neg c11] at H; have c11b0 := df_ c11; have c11b1 : decide (0 < t1004.length) = false := decide_eq_false (by omega); have c11b2 : ¬ 0 < t1004.length := by omega
      clear c11; have H' := am_ H; clear H; have p1001 : 0 ≤ (x15_1 : Int) := od_; have q1001 : x15_1 < (l0.length : Int) := od_; obtain ⟨ad1001, A1001_0, c1001_0, A1001_1, c1001_1, e1001, hx1001_0, hx1001_1, hl1001_0, hi1001_0, hl1001_1, hi1001_1⟩ := at_T56 HR0.out x15_1 p1001 q1001
      cases e1001
      replace hx1001_0 := kp_ HB hx1001_0; replace hx1001_1 := kp_ HB hx1001_1; have HR1001_0 := am_ hi1001_0; have HC1001_0 := am_ hl1001_0; clear hi1001_0 hl1001_0; have HR1001_1 := am_ hi1001_1; have HC1001_1 := am_ hl1001_1; clear hi1001_1 hl1001_1; replace p1001 := eq_true p1001; replace q1001 := eq_true q1001; go_wp2_with (first | ((with_reducible refine gate_dst (N := 11) rfl ?_); refine bx_ 11 #[.slice none 0 0, .slice none 0 0] 56 ?_; intro gb1002 hg w24 hbox hb; have BK1002 := am_ (hbox); have GW1002 := am_ (gs_ hg : w.heap.size ≤ gb1002); replace HO_9 := am_ (Kd.S_below (Kd.S_elderB (by (with_reducible repeat (first | apply Kd.S_alloc | apply Kd.S_drewN | apply Kd.S_drew)); exact HO_9.out) gb1002 (Nat.le_of_eq hg.symm)) hb); replace HB := am_ (below_step bl_ hb); have GE1002 := GW1002; clear hb hbox hg; have hz25 := bk2_ BK1002) | ((with_reducible refine gate_callee (f := 50) rfl ?_); refine gl_ 22 Tryz.func50 #[.slice A1 l1.length c1, .slice A1001_0 ((rd_T56 l0 x15_1).f0).length c1001_0] ?_; (with_reducible refine (impl_fits.calls k1 _ _ l1 _ _ ((rd_T56 l0 x15_1).f0) true _ ?side1 ?side2 ?side3 ?side4 A8.out).mono ?_); (case side1 => exact Kd.C_below HR1.out bg_); (case side2 => exact HC1.out); (case side3 => exact Kd.C_below HR1001_0.out bg_); (case side4 => exact HC1001_0.out); rintro e w26 ⟨rfl, hb⟩; refine ⟨_, rfl, ?_⟩; replace HO_9 := am_ (Kd.S_below (by (with_reducible repeat (first | apply Kd.S_alloc | apply Kd.S_drewN | apply Kd.S_drew)); exact (Kd.S_mono (Kd.S_far (p := ⟨gb1002, 1, none⟩) (Kd.S_far (p := ⟨gb1002, 0, none⟩) (Kd.S_mono HO_9.out (fun k_ hk => (⟨hk, hk.2⟩ : _ ∧ k_ ≠ gb1002))) (fun _ hk => hk.2) (.slice A1001_0 ((rd_T56 l0 x15_1).f0).length c1001_0)) (fun _ hk => hk.2) (.slice A1001_1 ((rd_T56 l0 x15_1).f1).length c1001_1)) (fun _ h_ => h_.1))) hb); replace BK1002 := am_ (blk_below (g := gb1002) (o := .cells #[.slice A1001_0 ((rd_T56 l0 x15_1).f0).length c1001_0, .slice A1001_1 ((rd_T56 l0 x15_1).f1).length c1001_1] 56 (0, 0)) (by (with_reducible repeat (first | refine blk_drewN ?_ _ | refine blk_drew ?_ | refine blk_alloc ?_ _)); refine blk_put (cs := #[.slice A1001_0 ((rd_T56 l0 x15_1).f0).length c1001_0, .slice none 0 0]) ?_ 1 _ rfl; (with_reducible repeat (first | refine blk_drewN ?_ _ | refine blk_drew ?_ | refine blk_alloc ?_ _)); refine blk_put (cs := #[.slice none 0 0, .slice none 0 0]) ?_ 0 _ rfl; (with_reducible repeat (first | refine blk_drewN ?_ _ | refine blk_drew ?_ | refine blk_alloc ?_ _)); exact BK1002.out) hb); replace HB := am_ (below_step bg_ hb); (try clear hb); have hz27 := bk2_ BK1002) | ((with_reducible refine gate_callee (f := 51) rfl ?_); refine gl_ 28 Tryz.func51 #[.slice A1001_1 ((rd_T56 l0 x15_1).f1).length c1001_1, .int .i64 a2, .int .i64 a3] ?_; (with_reducible refine (impl_cut.calls k1 _ _ ((rd_T56 l0 x15_1).f1) a2 a3 t1004 _ ?side1 ?side2 A10.out).mono ?_); (case side1 => exact cc_ (Kd.C_below HR1001_1.out HB.out)); (case side2 => exact HC1001_1.out); rintro e w28 ⟨v1005, rfl, ho0, hb⟩; refine ⟨_, rfl, ?_⟩; have HO1006 := am_ (Kd.R_lower ho0 (below_size bg_)); replace HO_9 := am_ (Kd.S_elder' (by (with_reducible repeat (first | apply Kd.S_alloc | apply Kd.S_drewN | apply Kd.S_drew)); exact HO_9.out) (Kd.R_base ho0) hb); replace BK1002 := vb_ BK1002 hb; replace HB := am_ (below_step bg_ hb); (try clear hb); (try clear ho0); obtain ⟨Ao29, co29, eo29⟩ := Kd.R_slice HO1006.out; subst eo29)); go_roundg k1
      case measure => have := HK1.out; omega
      case rel => exact ⟨(x9_1), (wrap64 (x15_1 + 1)), rs_, H', ⟨by have := HK1.out; omega⟩, ⟨by (with_reducible repeat (first | apply Kd.S_alloc | apply Kd.S_drewN | apply Kd.S_drew)); exact Kd.S_mono HO_9.out (fun _ hk => trivial)⟩, ⟨bg_⟩⟩
    ·replace c9 := Bool.eq_false_iff.mpr c9; subst c9; replace H := if_ H; have H' := am_ H; clear H; have p1001 : 0 ≤ (x15_1 : Int) := od_; have q1001 : x15_1 < (l0.length : Int) := od_; obtain ⟨ad1001, A1001_0, c1001_0, A1001_1, c1001_1, e1001, hx1001_0, hx1001_1, hl1001_0, hi1001_0, hl1001_1, hi1001_1⟩ := at_T56 HR0.out x15_1 p1001 q1001
     cases e1001
     replace hx1001_0 := kp_ HB hx1001_0; replace hx1001_1 := kp_ HB hx1001_1; have HR1001_0 := am_ hi1001_0; have HC1001_0 := am_ hl1001_0; clear hi1001_0 hl1001_0; have HR1001_1 := am_ hi1001_1; have HC1001_1 := am_ hl1001_1; clear hi1001_1 hl1001_1; replace p1001 := eq_true p1001; replace q1001 := eq_true q1001; go_wp2_with (first | ((with_reducible refine gate_dst (N := 11) rfl ?_); refine bx_ 11 #[.slice none 0 0, .slice none 0 0] 56 ?_; intro gb1002 hg w30 hbox hb; have BK1002 := am_ (hbox); have GW1002 := am_ (gs_ hg : w.heap.size ≤ gb1002); replace HO_9 := am_ (Kd.S_below (Kd.S_elderB (by (with_reducible repeat (first | apply Kd.S_alloc | apply Kd.S_drewN | apply Kd.S_drew)); exact HO_9.out) gb1002 (Nat.le_of_eq hg.symm)) hb); replace HB := am_ (below_step bl_ hb); have GE1002 := GW1002; clear hb hbox hg; have hz31 := bk2_ BK1002) | ((with_reducible refine gate_callee (f := 50) rfl ?_); refine gl_ 22 Tryz.func50 #[.slice A1 l1.length c1, .slice A1001_0 ((rd_T56 l0 x15_1).f0).length c1001_0] ?_; (with_reducible refine (impl_fits.calls k1 _ _ l1 _ _ ((rd_T56 l0 x15_1).f0) false _ ?side1 ?side2 ?side3 ?side4 A8.out).mono ?_); (case side1 => exact Kd.C_below HR1.out bg_); (case side2 => exact HC1.out); (case side3 => exact Kd.C_below HR1001_0.out bg_); (case side4 => exact HC1001_0.out); rintro e w32 ⟨rfl, hb⟩; refine ⟨_, rfl, ?_⟩; replace HO_9 := am_ (Kd.S_below (by (with_reducible repeat (first | apply Kd.S_alloc | apply Kd.S_drewN | apply Kd.S_drew)); exact (Kd.S_mono (Kd.S_far (p := ⟨gb1002, 1, none⟩) (Kd.S_far (p := ⟨gb1002, 0, none⟩) (Kd.S_mono HO_9.out (fun k_ hk => (⟨hk, hk.2⟩ : _ ∧ k_ ≠ gb1002))) (fun _ hk => hk.2) (.slice A1001_0 ((rd_T56 l0 x15_1).f0).length c1001_0)) (fun _ hk => hk.2) (.slice A1001_1 ((rd_T56 l0 x15_1).f1).length c1001_1)) (fun _ h_ => h_.1))) hb); replace BK1002 := am_ (blk_below (g := gb1002) (o := .cells #[.slice A1001_0 ((rd_T56 l0 x15_1).f0).length c1001_0, .slice A1001_1 ((rd_T56 l0 x15_1).f1).length c1001_1] 56 (0, 0)) (by (with_reducible repeat (first | refine blk_drewN ?_ _ | refine blk_drew ?_ | refine blk_alloc ?_ _)); refine blk_put (cs := #[.slice A1001_0 ((rd_T56 l0 x15_1).f0).length c1001_0, .slice none 0 0]) ?_ 1 _ rfl; (with_reducible repeat (first | refine blk_drewN ?_ _ | refine blk_drew ?_ | refine blk_alloc ?_ _)); refine blk_put (cs := #[.slice none 0 0, .slice none 0 0]) ?_ 0 _ rfl; (with_reducible repeat (first | refine blk_drewN ?_ _ | refine blk_drew ?_ | refine blk_alloc ?_ _)); exact BK1002.out) hb); replace HB := am_ (below_step bg_ hb); (try clear hb))); go_roundg k1
     case measure => have := HK1.out; omega
     case rel => exact ⟨(x9_1), (wrap64 (x15_1 + 1)), rs_, H', ⟨by have := HK1.out; omega⟩, ⟨by (with_reducible repeat (first | apply Kd.S_alloc | apply Kd.S_drewN | apply Kd.S_drew)); exact Kd.S_mono HO_9.out (fun _ hk => trivial)⟩, ⟨bg_⟩⟩
   ·rw [if_neg c5] at H; have c5b0 := decide_eq_false c5; clear c5; obtain rfl := si_ H; go_wp2; go_ret; exact ⟨_, rf_, by (with_reducible repeat (first | apply Kd.S_alloc | apply Kd.S_drewN | apply Kd.S_drew)); exact HO_9.out, bl_⟩

end Go.Proofs.YthkhflhmnjgbnaaGreat.Pr
