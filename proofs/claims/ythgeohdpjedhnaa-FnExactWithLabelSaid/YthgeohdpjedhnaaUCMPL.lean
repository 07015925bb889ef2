/- Plain lemmas over the printed functions, for the laws' plain statements; each theorem states its own conditions. -/
import Derived.Test.YthgeohdpjedhnaaPrxga12edn3
import Derived.Test.YthgeohdpjedhnaaPrxga12edn6
import Derived.Test.YthgeohdpjedhnaaPrxga12edn7
import Derived.Test.YthgeohdpjedhnaaPrxga12edn8
import Derived.Test.YthgeohdpjedhnaaUB
import Derived.Test.YthgeohdpjedhnaaUSTR
import Derived.Test.YthgeohdpjedhnaaUCMP
import Derived.Test.YthgeohdpjedhnaaULABELS
namespace Go.Proofs.Ythgeohdpjedhnaa.U
open Go.RowKit Go.Proofs.Ythgeohdpjedhnaa.Pr Go.Proofs.YthgeohdpjedhnaaW.PrintWords Go.Proofs.YthgeohdpjedhnaaW.PrintLast Go.Proofs.YthgeohdpjedhnaaW.PrintMore
set_option linter.unusedVariables false
set_option linter.unusedSimpArgs false

theorem cmpL_neg : ∀ a b : List UInt8, cmpL b a = - cmpL a b
  | [], [] => rfl
  | [], _ :: _ => rfl
  | _ :: _, [] => rfl
  | a :: l, b :: m => by
    simp only [cmpL]
    by_cases e : (a.toNat : Int) = (b.toNat : Int)
    · rw [if_pos e, if_pos e.symm]
      exact cmpL_neg l m
    · rw [if_neg e, if_neg (fun h => e h.symm)]
      by_cases h : (a.toNat : Int) < (b.toNat : Int)
      · rw [if_pos h, if_neg (by omega)]
        rfl
      · rw [if_neg h, if_pos (by omega)]
theorem cmpL_cases : ∀ a b : List UInt8, cmpL a b = -1 ∨ cmpL a b = 0 ∨ cmpL a b = 1
  | [], [] => .inr (.inl rfl)
  | [], _ :: _ => .inl rfl
  | _ :: _, [] => .inr (.inr rfl)
  | a :: l, b :: m => by
    simp only [cmpL]
    by_cases e : (a.toNat : Int) = (b.toNat : Int)
    · rw [if_pos e]
      exact cmpL_cases l m
    · rw [if_neg e]
      by_cases h : (a.toNat : Int) < (b.toNat : Int)
      · rw [if_pos h]
        exact .inl rfl
      · rw [if_neg h]
        exact .inr (.inr rfl)
/-- How two lists of labels stand to each other. -/
def cmpLL : List S86 → List S86 → Int
  | [], [] => 0
  | [], _ :: _ => -1
  | _ :: _, [] => 1
  | x :: xs, y :: ys => if cmpL (Y x.f0) (Y y.f0) = 0 then (if cmpL (Y x.f1) (Y y.f1) = 0 then cmpLL xs ys else cmpL (Y x.f1) (Y y.f1)) else cmpL (Y x.f0) (Y y.f0)
theorem cmpLL_spec (l m : List S86) (hl : fitL l) (hm : fitL m) : Ev (fun k => spec_l2Cmp.f k l m) (cmpLL l m) := by
  have hrd : ∀ (l : List S86) (i : Nat) (h : i < l.length), rd_T86 l (i : Int) = l[i] := fun l i h => getD_lt h
  refine up_ind (min l.length m.length) (fun i => Ev (fun k => spec_l2Cmp.l0 k l m (i : Int)) (cmpLL (l.drop i) (m.drop i))) ?_ ?_ 0 (by omega)
  · generalize hq : min l.length m.length = q
    rcases Nat.lt_or_ge q l.length with h | h
    · have e : q = m.length := by omega
      refine ev_step (fun _ => spec_l2Cmp.l0.eq_2 ..) (ev_pos (by omega) ?_)
      rw [decide_eq_false (by omega)]
      refine ev_step (fun _ => spec_l2Cmp.j1.eq_2 ..) (ev_neg (by decide) (ev_bind (ev_eq (cmpNum_spec _ _)) ?_))
      rw [List.drop_eq_getElem_cons h, show m.drop q = [] from by rw [e, List.drop_length]]
      unfold cn cmpLL
      rw [if_neg (by omega), if_pos (by omega)]
      exact ev_now _
    · have e : q = l.length := by omega
      refine ev_step (fun _ => spec_l2Cmp.l0.eq_2 ..) (ev_neg (by omega) ?_)
      refine ev_step (fun _ => spec_l2Cmp.j1.eq_2 ..) (ev_neg (by decide) (ev_bind (ev_eq (cmpNum_spec _ _)) ?_))
      rw [e, List.drop_length]
      by_cases h2 : l.length < m.length
      · rw [List.drop_eq_getElem_cons h2]
        unfold cn cmpLL
        rw [if_pos (by omega)]
        exact ev_now _
      · have e2 : l.length = m.length := by omega
        rw [e2, List.drop_length]
        unfold cn cmpLL
        rw [if_neg (by omega), if_neg (by omega)]
        exact ev_now _
  · intro i h ih
    have h1 : i < l.length := by omega
    have h2 : i < m.length := by omega
    obtain ⟨a1, a2⟩ := hl.2 l[i] (List.getElem_mem h1)
    obtain ⟨b1, b2⟩ := hm.2 m[i] (List.getElem_mem h2)
    refine ev_step (fun _ => spec_l2Cmp.l0.eq_2 ..) (ev_pos (by omega) ?_)
    rw [decide_eq_true (by omega)]
    refine ev_step (fun _ => spec_l2Cmp.j1.eq_2 ..) (ev_pos rfl (ev_pos (by omega) (ev_pos (by omega) (ev_pos (by omega) ?_))))
    rw [hrd l i h1, hrd m i h2, List.drop_eq_getElem_cons h1, List.drop_eq_getElem_cons h2, w64n h1 hl.1]
    simp only [cmpLL]
    refine ev_bind (cmp_spec _ _ a1 b1) (ev_ite (fun h3 => ev_bind (cmp_spec _ _ a2 b2) (ev_ite (fun h4 => ?_) (fun h4 => ?_))) (fun h3 => ?_))
    · rw [if_pos h3, if_pos h4]
      exact ih
    · rw [if_pos h3, if_neg h4]
      exact ev_now _
    · rw [if_neg h3]
      exact ev_now _
theorem compare_str (a b : ByteArray) : cmp_Compare_string.f a b = some (cmpL (Y a) (Y b)) := by
  unfold cmp_Compare_string.f cmp_isNaN_string.f
  simp only [bne_self_eq_false, Option.bind_some]
  rw [if_neg (by decide), if_neg (by decide), Y_eq, Y_eq, less_cmp, less_cmp, cmpL_neg (Y a) (Y b)]
  rcases cmpL_cases (Y a) (Y b) with h | h | h <;> rw [h] <;> rfl
theorem compare_int (a b : Int) : cmp_Compare_int.f a b = some (cn a b) := by
  unfold cmp_Compare_int.f cmp_isNaN_int.f cn
  simp only [bne_self_eq_false, Option.bind_some]
  rw [if_neg (by decide), if_neg (by decide)]
  by_cases h : a < b
  · rw [if_pos h, if_pos h]
  · rw [if_neg h, if_neg h]
    by_cases h' : a > b
    · rw [if_pos h', if_pos h']
    · rw [if_neg h', if_neg h']
theorem or_two (a b : Int) : Ev (fun k => cmp_Or_int.f k [a, b]) (if a = 0 then b else a) := by
  unfold cmp_Or_int.f
  refine ev_step (fun _ => cmp_Or_int.l0.eq_2 ..) (ev_pos (by simp) (ev_pos (by simp) (ev_pos (by simp) ?_)))
  rw [show rd [a, b] 0 = a from rfl]
  refine ev_ite (fun h => ?_) (fun h => ?_)
  · rw [if_pos h, show wrap64 (0 + 1) = 1 from (w64 (by omega) (by omega)).trans (by omega)]
    refine ev_step (fun _ => cmp_Or_int.l0.eq_2 ..) (ev_pos (by simp) (ev_pos (by simp) (ev_pos (by simp) ?_)))
    rw [show rd [a, b] 1 = b from rfl]
    refine ev_ite (fun h => ?_) (fun h => ev_now _)
    rw [h, show wrap64 (1 + 1) = 2 from (w64 (by omega) (by omega)).trans (by omega)]
    exact ev_step (fun _ => cmp_Or_int.l0.eq_2 ..) (ev_neg (by simp) (ev_now _))
  · rw [if_neg h]
    exact ev_now _
theorem cmpLL_impl (l m : List S86) (hl : fitL l) (hm : fitL m) : Ev (fun k => impl_compare.f k l m) (cmpLL l m) := by
  have hrd : ∀ (l : List S86) (i : Nat) (h : i < l.length), rd_T86 l (i : Int) = l[i] := fun l i h => getD_lt h
  unfold impl_compare.f
  rw [show mn (l.length : Int) (m.length : Int) = ((min l.length m.length : Nat) : Int) from by unfold mn; split <;> omega]
  refine up_ind (min l.length m.length) (fun i => Ev (fun k => impl_compare.l0 k l m ((min l.length m.length : Nat) : Int) (i : Int)) (cmpLL (l.drop i) (m.drop i))) ?_ ?_ 0 (by omega)
  · generalize hq : min l.length m.length = q
    refine ev_step (fun _ => impl_compare.l0.eq_2 ..) (ev_neg (by omega) (ev_bind (ev_eq (compare_int _ _)) ?_))
    rcases Nat.lt_or_ge q l.length with h | h
    · have e : q = m.length := by omega
      rw [List.drop_eq_getElem_cons h, show m.drop q = [] from by rw [e, List.drop_length]]
      unfold cn cmpLL
      rw [if_neg (by omega), if_pos (by omega)]
      exact ev_now _
    · have e : q = l.length := by omega
      rw [e, List.drop_length]
      by_cases h2 : l.length < m.length
      · rw [List.drop_eq_getElem_cons h2]
        unfold cn cmpLL
        rw [if_pos (by omega)]
        exact ev_now _
      · have e2 : l.length = m.length := by omega
        rw [e2, List.drop_length]
        unfold cn cmpLL
        rw [if_neg (by omega), if_neg (by omega)]
        exact ev_now _
  · intro i h ih
    have h1 : i < l.length := by omega
    have h2 : i < m.length := by omega
    have hl1 := hl.1
    refine ev_step (fun _ => impl_compare.l0.eq_2 ..) (ev_pos (by omega) (ev_pos (by omega) (ev_pos (by omega) (ev_pos (by omega) ?_))))
    rw [hrd l i h1, hrd m i h2, List.drop_eq_getElem_cons h1, List.drop_eq_getElem_cons h2, w64n h1 hl1]
    refine ev_bind (ev_eq (compare_str _ _)) (ev_bind (ev_eq (compare_str _ _)) (ev_bind (or_two _ _) ?_))
    simp only [cmpLL]
    by_cases h3 : cmpL (Y l[i].f0) (Y m[i].f0) = 0
    · rw [if_pos h3, if_pos h3]
      refine ev_ite (fun h4 => ?_) (fun h4 => ?_)
      · rw [if_pos h4]
        exact ih
      · rw [if_neg h4]
        exact ev_now _
    · rw [if_neg h3, if_neg h3]
      exact ev_neg h3 (ev_now _)

end Go.Proofs.Ythgeohdpjedhnaa.U
