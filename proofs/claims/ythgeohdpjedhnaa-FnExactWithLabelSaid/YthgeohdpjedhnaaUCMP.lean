/- Plain lemmas over the printed functions, for the laws' plain statements; each theorem states its own conditions. -/
import Derived.Test.YthgeohdpjedhnaaPrxg5570bn1
import Derived.Test.YthgeohdpjedhnaaUB
import Derived.Test.YthgeohdpjedhnaaUSTR
namespace Go.Proofs.Ythgeohdpjedhnaa.U
open Go.RowKit Go.Proofs.Ythgeohdpjedhnaa.Pr Go.Proofs.YthgeohdpjedhnaaW.PrintWords Go.Proofs.YthgeohdpjedhnaaW.PrintLast Go.Proofs.YthgeohdpjedhnaaW.PrintMore
set_option linter.unusedVariables false
set_option linter.unusedSimpArgs false

def cn (a b : Int) : Int := if a < b then -1 else if a > b then 1 else 0
theorem cmpNum_spec (a b : Int) : spec_l2CmpNum.f a b = some (cn a b) := by
  unfold spec_l2CmpNum.f cn
  by_cases h : a < b
  · rw [if_pos h, if_pos h]
  · rw [if_neg h, if_neg h]
    by_cases h' : a > b
    · rw [if_pos h', if_pos h']
    · rw [if_neg h', if_neg h']
theorem less_cmp : ∀ a b : List UInt8, Op.bytesLess a b = decide (cmpL a b < 0)
  | [], [] => rfl
  | [], _ :: _ => rfl
  | _ :: _, [] => rfl
  | a :: l, b :: m => by
    unfold Op.bytesLess cmpL
    rw [less_cmp l m]
    by_cases e : (a.toNat : Int) = (b.toNat : Int)
    · have : a = b := UInt8.toNat_inj.1 (by omega)
      subst this
      simp
    · have hne : (a == b) = false := by
        rw [beq_eq_false_iff_ne]
        rintro rfl
        exact e rfl
      rw [if_neg e, hne, Bool.false_and, Bool.or_false]
      by_cases h : (a.toNat : Int) < (b.toNat : Int)
      · rw [if_pos h]
        have : a < b := UInt8.lt_iff_toNat_lt.2 (by omega)
        simp [this]
      · rw [if_neg h]
        have : ¬ a < b := fun h' => h (by have := UInt8.lt_iff_toNat_lt.1 h'; omega)
        simp [this]
theorem cmp_spec (s t : ByteArray) (hs : s.size ≤ 9223372036854775807) (ht : t.size ≤ 9223372036854775807) : Ev (fun k => spec_l2CmpText.f k s t) (cmpL (Y s) (Y t)) := by
  refine up_ind (min s.size t.size) (fun i => Ev (fun k => spec_l2CmpText.l0 k s t (i : Int)) (cmpL ((Y s).drop i) ((Y t).drop i))) ?_ ?_ 0 (by omega)
  · generalize hm : min s.size t.size = m
    rcases Nat.lt_or_ge m s.size with h | h
    · have e : m = t.size := by omega
      refine ev_step (fun _ => spec_l2CmpText.l0.eq_2 ..) (ev_pos (by omega) ?_)
      rw [decide_eq_false (by omega)]
      refine ev_step (fun _ => spec_l2CmpText.j1.eq_2 ..) (ev_neg (by decide) (ev_bind (ev_eq (cmpNum_spec _ _)) ?_))
      rw [Y_drop h, show List.drop m (Y t) = [] from by rw [e, Y_drop_end]]
      unfold cn cmpL
      rw [if_neg (by omega), if_pos (by omega)]
      exact ev_now _
    · have e : m = s.size := by omega
      refine ev_step (fun _ => spec_l2CmpText.l0.eq_2 ..) (ev_neg (by omega) ?_)
      refine ev_step (fun _ => spec_l2CmpText.j1.eq_2 ..) (ev_neg (by decide) (ev_bind (ev_eq (cmpNum_spec _ _)) ?_))
      rw [e, Y_drop_end]
      by_cases h2 : s.size < t.size
      · rw [Y_drop h2]
        unfold cn cmpL
        rw [if_pos (by omega)]
        exact ev_now _
      · have e2 : s.size = t.size := by omega
        rw [e2, Y_drop_end]
        unfold cn cmpL
        rw [if_neg (by omega), if_neg (by omega)]
        exact ev_now _
  · intro i h ih
    have h1 : i < s.size := by omega
    have h2 : i < t.size := by omega
    refine ev_step (fun _ => spec_l2CmpText.l0.eq_2 ..) (ev_pos (by omega) ?_)
    rw [decide_eq_true (by omega)]
    refine ev_step (fun _ => spec_l2CmpText.j1.eq_2 ..) (ev_pos rfl (ev_pos (by omega) (ev_pos (by omega) (ev_pos (by omega) ?_))))
    rw [bt_at h1, bt_at h2, Y_drop h1, Y_drop h2, w64n h1 hs]
    have a1 := ((Y s)[i]'(by rw [Y_len]; exact h1)).toNat_lt
    have a2 := ((Y t)[i]'(by rw [Y_len]; exact h2)).toNat_lt
    rw [w64 (x := (((Y s)[i]'(by rw [Y_len]; exact h1)).toNat : Int)) (by omega) (by omega), w64 (x := (((Y t)[i]'(by rw [Y_len]; exact h2)).toNat : Int)) (by omega) (by omega)]
    unfold cmpL
    refine ev_ite (fun h3 => ?_) (fun h3 => ?_)
    · rw [if_pos h3]
      exact ih
    · rw [if_neg h3]
      refine ev_bind (ev_eq (cmpNum_spec _ _)) ?_
      unfold cn
      by_cases h4 : (((Y s)[i]'(by rw [Y_len]; exact h1)).toNat : Int) < (((Y t)[i]'(by rw [Y_len]; exact h2)).toNat : Int)
      · rw [if_pos h4, if_pos h4]
        exact ev_now _
      · rw [if_neg h4, if_neg h4, if_pos (by omega)]
        exact ev_now _

end Go.Proofs.Ythgeohdpjedhnaa.U
