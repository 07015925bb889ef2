/- Functions of the given program as plain Lean functions, and that the machine's calls come to them; written by a program of this session; no condition but those that each theorem states. -/
import Derived.Test.YthkhflhmnjgbnaaShelf
import Derived.Test.YthkhflhmnjgbnaaNest
import Derived.Test.YthkhflhmnjgbnaaPrx0
import Derived.Test.YthkhflhmnjgbnaaPrxg7133en1
import Derived.Test.YthkhflhmnjgbnaaPrxg7133en2
import Derived.Test.YthkhflhmnjgbnaaPrxg7133en3
namespace Go.Proofs.Ythkhflhmnjgbnaa.Pr
open Go.RowKit Go.Proofs.YthkhflhmnjgbnaaW.PrintWords Go.Proofs.YthkhflhmnjgbnaaW.PrintLast Go.Proofs.YthkhflhmnjgbnaaW.PrintMore
attribute [local go_sem] max2_int min2_int max_two min_two max_three min_three max_four min_four   -- for this text's walks alone
set_option linter.unusedVariables false
set_option linter.unusedSimpArgs false

/-! ### spec_l7Insert: function 20 -/
def spec_l7Insert.l0 : Nat → List ByteArray → ByteArray → Int → Option Int
 | 0, _, _, _ => none
 | k + 1, l, s, i => if i < (l.length : Int) then (if 0 ≤ i then ((spec_l2CmpText.f k (rdOf ByteArray.empty l i) s).bind fun t => if t < 0 then spec_l7Insert.l0 k l s (wrap64 (i + 1)) else some i) else none) else some i
def spec_l7Insert.f (k : Nat) (l : List ByteArray) (s : ByteArray) : Option (List ByteArray) := (spec_l7Insert.l0 k l s 0).bind fun i => if 0 ≤ i then (if i ≤ (l.length : Int) then (if l.length < 4398046511104 then (if i < (l.length : Int) then (if (rdOf ByteArray.empty l i).toList = s.toList then some l else some (l.take i.toNat ++ s :: l.drop i.toNat)) else some (l.take i.toNat ++ s :: l.drop i.toNat)) else none) else none) else none
theorem spec_l7Insert.mono_l : ∀ k l s i, LeO (spec_l7Insert.l0 k l s i) (spec_l7Insert.l0 (k + 1) l s i)
 | 0, _, _, _ => LeO.none _
 | k + 1, l, s, i => by
  have ih := spec_l7Insert.mono_l k
  rw [spec_l7Insert.l0, spec_l7Insert.l0]
  exact LeO.ite (LeO.ite (LeO.bind (spec_l2CmpText.mono _ _ _) (fun _ => LeO.ite (ih _ _ _) (LeO.refl _))) (LeO.refl _)) (LeO.refl _)
theorem spec_l7Insert.mono : ∀ a0 a1 k, LeO (spec_l7Insert.f k a0 a1) (spec_l7Insert.f (k + 1) a0 a1) := fun a0 a1 k => LeO.bind (spec_l7Insert.mono_l _ _ _ _) (fun _ => LeO.refl _)
/-- What lies behind a shift by one place. -/
theorem spec_l7Insert.shift {w : World} {base e g cap : Nat} {ok : Nat → Prop} {xs : List ByteArray} (HO : Kd.R Kd.string e w base ok (.slice (some ⟨g, 0, none⟩) xs.length cap) xs) (i : Nat) (hi : i < xs.length) (dT sT ty : Nat) (ht : Try.prog.underlying dT = some (.slice e)) (hinfo : (Try.prog.info? e).map (·.size) = some 1) (c1 c2 : Nat) :
  ∃ w1, (Builtin.copy_ #[dT, sT] ty #[.slice (some ⟨g, i + 1, none⟩) (xs.length - (i + 1)) c1, .slice (some ⟨g, i, none⟩) (xs.length - i) c2]).run Try.prog w = .ok (goInt ((xs.length - (i + 1) : Nat) : Int)) w1 ∧ Kd.R Kd.string e w1 base ok (.slice (some ⟨g, 0, none⟩) xs.length cap) (xs.take (i + 1) ++ (xs.drop i).take (xs.length - (i + 1))) ∧ w.grownBy w1 (some g) := by
 have hown := Kd.own_of_R HO
 rcases hown.2 with ⟨hn, _⟩ | ⟨g', cap', cur, hv, hb, hh, hnc, hcm, hcs, htake⟩
 ·cases hn
 ·cases hv
  have hcs1 : cur.size = cap := by omega
  have htk : cur.toList.take xs.length = encs Value.string xs := by rw [← htake, Nat.mul_one]
  have hcell : ∀ q (hq : q < xs.length), w.cell? ⟨g, q, none⟩ = some (.string xs[q]) := by
   intro q hq
   have h1 : (cur.toList.take xs.length)[q]? = some (.string xs[q]) := by rw [htk]; simp [encs, hq]
   rw [List.getElem?_take_of_lt hq] at h1
   rw [cell_of_row w g q cur e (0, 0) hh]
   simpa using h1
  have hL : ((xs.drop i).take (xs.length - (i + 1))).length = xs.length - (i + 1) := by rw [List.length_take, List.length_drop]; omega
  have hkl : (encs Value.string ((xs.drop i).take (xs.length - (i + 1)))).length = xs.length - (i + 1) := by rw [encs_length, hL]
  have hr := run_copy_cells (P := Try.prog) w dT sT ty e g (i + 1) (xs.length - (i + 1)) c1 ⟨g, i, none⟩ (xs.length - i) c2 (encs Value.string ((xs.drop i).take (xs.length - (i + 1)))) ht hinfo (by rw [hkl]; simp only [Nat.min_def]; split <;> omega)
   (fun j u hu => by
    have hj : j < xs.length - (i + 1) := by
     rcases Nat.lt_or_ge j (xs.length - (i + 1)) with h | h
     ·exact h
     ·rw [List.getElem?_eq_none (by rw [hkl]; exact h)] at hu; cases hu
    have hadd : (⟨g, i, none⟩ : Addr).add j = ⟨g, i + j, none⟩ := by unfold Addr.add; split <;> simp_all
    rw [hadd, hcell (i + j) (by omega), ← hu]
    simp [encs, hj, List.getElem?_take_of_lt hj, List.getElem?_drop, show i + j < xs.length from by omega])
   (fun j hj => by rw [hcell (i + 1 + j) (by omega)]; rfl) (fun j _ => blk_frozen hh _) (by intro u hu; simp only [encs, List.mem_map] at hu; obtain ⟨q, _, rfl⟩ := hu; rfl)
  obtain ⟨cur', h3, h4, h5⟩ := setCells_row (encs Value.string ((xs.drop i).take (xs.length - (i + 1)))) (i + 1) w cur hh (by rw [hkl]; omega)
  obtain ⟨s1, s2, s3, s4⟩ := setCells_same g (encs Value.string ((xs.drop i).take (xs.length - (i + 1)))) (i + 1) w
  refine ⟨_, by rw [hr, hkl], Kd.R_of_own ?_ HO.1, ⟨s1, s2, s3, by rw [s4]; exact Nat.le_refl _, fun k _ hk => setCells_far _ _ k (fun he => hk (by rw [he]))⟩⟩
  have hln : (xs.take (i + 1) ++ (xs.drop i).take (xs.length - (i + 1))).length = xs.length := by rw [List.length_append, List.length_take, hL]; omega
  rw [hln]
  refine ⟨by rw [encs_length, hln, Nat.mul_one], .inr ⟨g, cap, cur', rfl, hb, h3, hnc, hcm, by rw [h4, hcs], ?_⟩⟩
  have hA : cur.toList.take (i + 1) = encs Value.string (xs.take (i + 1)) := by rw [show encs Value.string (xs.take (i + 1)) = (encs Value.string xs).take (i + 1) from by simp [encs, List.map_take], ← htk, List.take_take, Nat.min_eq_left (by omega)]
  have hlA : (cur.toList.take (i + 1)).length = i + 1 := by rw [hA, encs_length, List.length_take]; omega
  rw [h5, Nat.mul_one, List.take_left' (by rw [List.length_append, hkl, hlA]; omega), encs_append, hA]
theorem spec_l7Insert.copy {w : World} {base e g cap n : Nat} {ok : Nat → Prop} {xs : List ByteArray} (HO : Kd.R Kd.string e w base ok (.slice (some ⟨g, 0, none⟩) (n + 1) cap) xs) (hx : xs.length = n + 1) (i : Nat) (hi : i ≤ n) (dT sT ty : Nat) (ht : Try.prog.underlying dT = some (.slice e)) (hinfo : (Try.prog.info? e).map (·.size) = some 1) (A : Option Addr) (hA : cap ≠ i + 1 → A = some ⟨g, i + 1, none⟩) (c1 c2 : Nat) :
  ∃ w1, (Builtin.copy_ #[dT, sT] ty #[.slice A (n - i) c1, .slice (some ⟨g, i, none⟩) (n + 1 - i) c2]).run Try.prog w = .ok (goInt ((n - i : Nat) : Int)) w1 ∧ Kd.R Kd.string e w1 base ok (.slice (some ⟨g, 0, none⟩) (n + 1) cap) (xs.take (i + 1) ++ (xs.drop i).take (n + 1 - (i + 1))) ∧ w.grownBy w1 (some g) := by
 have hcap : n + 1 ≤ cap := (Kd.R_reads' HO).2.1
 by_cases h0 : n - i = 0
 ·obtain rfl : i = n := by omega
  refine ⟨w, ?_, ?_, World.grownBy.refl w _⟩
  ·rw [h0]
   exact run_copy_none w dT sT ty e A (some ⟨g, i, none⟩) 0 c1 _ c2 ht hinfo (by simp)
  ·rw [show i + 1 - (i + 1) = 0 from by omega, List.take_zero, List.append_nil, ← hx, List.take_length, hx]
   exact HO
 ·rw [hA (by omega)]
  rw [← hx] at HO ⊢
  have := spec_l7Insert.shift HO i (by omega) dT sT ty ht hinfo c1 c2
  rw [show xs.length - (i + 1) = n - i from by omega] at this ⊢
  exact this
theorem spec_l7Insert.insert {xs : List ByteArray} {s : ByteArray} {i : Nat} (hi : i ≤ xs.length) : ((xs ++ [(⟨#[]⟩ : ByteArray)]).take (i + 1) ++ ((xs ++ [(⟨#[]⟩ : ByteArray)]).drop i).take (xs.length + 1 - (i + 1))).set i s = xs.take i ++ s :: xs.drop i := by
 have e1 : (xs ++ [(⟨#[]⟩ : ByteArray)]).take (i + 1) = xs.take i ++ [(xs ++ [(⟨#[]⟩ : ByteArray)])[i]'(by simp; omega)] := by
  rw [List.take_succ_eq_append_getElem (by simp; omega), List.take_append_of_le_length hi]
 have e2 : ((xs ++ [(⟨#[]⟩ : ByteArray)]).drop i).take (xs.length + 1 - (i + 1)) = xs.drop i := by
  rw [List.drop_append_of_le_length hi, List.take_append_of_le_length (by rw [List.length_drop]; omega), List.take_of_length_le (by rw [List.length_drop]; omega)]
 rw [e1, e2, List.append_assoc, List.set_append_right _ _ (by rw [List.length_take]; omega), List.length_take, Nat.min_eq_left hi, Nat.sub_self]
 rfl
theorem spec_l7Insert.put {e base : Nat} {ok : Nat → Prop} {w : World} {g cap n : Nat} {xs : List ByteArray} (h : Kd.R Kd.string e w base ok (.slice (some ⟨g, 0, none⟩) n cap) xs) (i : Nat) (s : ByteArray) (hn : n = xs.length) : Kd.R Kd.string e (w.setCell ⟨g, i, none⟩ (.string s)) base ok (.slice (some ⟨g, 0, none⟩) n cap) (xs.set i s) ∧ w.grownBy (w.setCell ⟨g, i, none⟩ (.string s)) (some g) := by
 subst hn
 obtain ⟨ho, hg⟩ := own_store_of (Kd.own_of_R h) (i : Int) s
 simp only [Int.toNat_natCast] at ho hg
 exact ⟨Kd.R_of_own (by rw [List.length_set]; exact ho) h.1, hg⟩
theorem spec_l7Insert.below {w0 W W2 : World} {row : Option Nat} (hB : Below w0.heap.size w0 W) (hg : W.grownBy W2 row) (hr : ∀ k, row = some k → w0.heap.size ≤ k) : Below w0.heap.size w0 W2 :=
 ⟨hg.os.trans hB.os, hg.tape.trans hB.tape, hg.output.trans hB.output, Nat.le_trans hB.size hg.size, fun i hi => (hg.block i (Nat.lt_of_lt_of_le hi hB.size) (fun e_ => by have := hr i e_.symm; omega)).trans (hB.block i hi)⟩
set_option maxHeartbeats 8000000 in
set_option maxRecDepth 100000 in
theorem spec_l7Insert.calls (k : Nat) (v : Value) (l : List ByteArray) (s : ByteArray) (r : List ByteArray) (w0 w : World) (hB : Below w0.heap.size w0 w) (ho : Kd.R Kd.string 9 w w0.heap.size (fun _ => True) v l) (h : spec_l7Insert.f k l s = some r) :
  Calls Try.prog 20 #[v, .string s] w fun e w' => ∃ v1, e = .returned v1 ∧ Kd.R Kd.string 9 w' w0.heap.size (fun _ => True) v1 r ∧ Below w0.heap.size w0 w' := by
 unfold spec_l7Insert.f at h
 obtain ⟨i, hA, h⟩ := Option.bind_eq_some_iff.mp h
 have HA0 := am_ hA
 have H0 := am_ h
 clear hA h
 obtain ⟨A0, c0, e0⟩ := Kd.R_slice ho
 subst e0
 have HO := am_ ho
 have HB := am_ hB
 clear ho hB
 go_enter Try.func20, Try.ntmps20
 go_wp2
 go_loopg [5] k (fun kq v5 w' => ∃ (x5 : Int), v5 = .int .i64 x5 ∧ Aside0 (spec_l7Insert.l0 kq l s x5 = some i) ∧ Aside0 (Kd.R Kd.string 9 w' w0.heap.size (fun _ => True) (.slice A0 l.length c0) l) ∧ Aside0 (Below w0.heap.size w0 w'))
 case atStart => exact ⟨0, rs_, HA0, HO, HB⟩
 case round =>
  clear HA0 HO HB
  obtain ⟨x5, rfl, HA, HO, HB⟩ := hrel
  cases gk with
  | zero => exact absurd HA.out (by simp [spec_l7Insert.l0])
  | succ k1 =>
   have H := HA.out
   clear HA
   simp only [spec_l7Insert.l0] at H
   by_cases c1 : x5 < (l.length : Int)
   ·rw [if_pos c1] at H
    have c1b := decide_eq_true c1
    by_cases c2 : 0 ≤ x5
    ·rw [if_pos c2] at H
     have c2b := decide_eq_true c2
     obtain ⟨t, A1, H⟩ := bs_ H
     obtain ⟨ad, e_, hx_0⟩ := Kd.at_string (Kd.R_reads' HO.out).2.2 x5 c2 c1
     cases e_
     by_cases c3 : t < 0
     ·rw [if_pos c3] at H
      have c3b := decide_eq_true c3
      have H' := am_ H
      clear H
      go_wp2_with (first | (go_at_call 39; (with_reducible refine (spec_l2CmpText.calls k1 (rdOf ByteArray.empty l x5) s t _ A1.out).mono ?_); rintro e w4 ⟨rfl, hd_⟩; have hb := drawn_below hd_; clear hd_; have hx_1 := (hb.cell (World.block_lt_of_cell? _ _ hx_0)).trans hx_0; clear hx_0; have hx_0 := hx_1; clear hx_1; replace HO := am_ (Kd.R_below HO.out hb); replace HB := am_ (below_step HB.out hb); clear hb))
      go_roundg k1
      case measure => omega
      case rel => exact ⟨_, rs_, H', HO, HB⟩
     ·rw [if_neg c3] at H
      have c3b := decide_eq_false c3
      obtain rfl := Option.some.inj H
      have H := H0.out
      clear H0
      rw [if_pos c2, if_pos (Int.le_of_lt c1)] at H
      obtain ⟨cl, H⟩ := is_ H
      rw [if_pos c1] at H
      have HL := am_ cl
      by_cases c4 : (rdOf ByteArray.empty l x5).toList = s.toList
      ·rw [if_pos c4] at H
       have c4b := eb_ c4
       obtain rfl := Option.some.inj H
       go_wp2_with (first | (go_at_call 39; (with_reducible refine (spec_l2CmpText.calls k1 (rdOf ByteArray.empty l x5) s t _ A1.out).mono ?_); rintro e w4 ⟨rfl, hd_⟩; have hb := drawn_below hd_; clear hd_; have hx_1 := (hb.cell (World.block_lt_of_cell? _ _ hx_0)).trans hx_0; clear hx_0; have hx_0 := hx_1; clear hx_1; replace HO := am_ (Kd.R_below HO.out hb); replace HB := am_ (below_step HB.out hb); clear hb))
       go_ret
       exact ⟨_, rf_, HO.out, HB.out⟩
      ·rw [if_neg c4] at H
       have c4b := nb_ c4
       obtain rfl := Option.some.inj H
       go_upto_region 7 with (first | (go_at_call 39; (with_reducible refine (spec_l2CmpText.calls k1 (rdOf ByteArray.empty l x5) s t _ A1.out).mono ?_); rintro e w4 ⟨rfl, hd_⟩; have hb := drawn_below hd_; clear hd_; have hx_1 := (hb.cell (World.block_lt_of_cell? _ _ hx_0)).trans hx_0; clear hx_0; have hx_0 := hx_1; clear hx_1; replace HO := am_ (Kd.R_below HO.out hb); replace HB := am_ (below_step HB.out hb); clear hb) | ((with_reducible refine gate_builtin (b := .append) (xs := #[.tmp 34, .tmp 35]) rfl ?_); at_builtin; refine Kd.R_append Kd.string (w0 := w0) w0.heap.size rfl (.tmp 34) (.tmp 35) 24 9 (.string ⟨#[]⟩) 16 rfl Try.underlying24 info9 rfl (by decide) (by omega) (.slice _ l.length c0) l ⟨#[]⟩ [.string ⟨#[]⟩] (fun _ => True) (fun _ => False) rfl rfl ?aP (fun _ hk => hk.elim) ?aF ?aO ?aB ?aS ?aL ?_; (case aP => exact rfl); (case aB => exact HB.out); (case aF => exact (fun _ _ => trivial)); (case aO => exact HO.out); (case aS => exact HB.out.size); (case aL => have := HL.out; omega); intro v1 w5 ho hb hg hat; have HO2 := am_ ho; have HB2 := am_ hb; clear ho hb hg hat HO HB))
       obtain ⟨i, rfl⟩ : ∃ i : Nat, x5 = (i : Int) := ⟨x5.toNat, by omega⟩
       have hil : i ≤ l.length := by omega
       obtain ⟨g, cp, e1, hgb, _, _⟩ := Kd.R_form HO2.out (by simp)
       have e2 : v1 = .slice (some ⟨g, 0, none⟩) (l.length + 1) cp := by rw [e1]; simp
       subst e2
       clear e1
       have hcp : l.length + 1 ≤ cp := (Kd.R_reads' HO2.out).2.1
       have hw1 : IntKind.i64.wrap ((i : Int) + 1) = ((i + 1 : Nat) : Int) := by rw [i64_w]; unfold wrap64; omega
       have HO3 := am_ (Kd.R_drew HO2.out)
       have HB3 := am_ (below_drew1 HB2.out)
       clear HO2 HB2
       refine start_ (n := 8) (S := fun _ => True) (ds := []) (bz 8 0) (by kernel_rfl) rfl rfl trivial (fun hHeld => ?_)
       generalize w5.drew = w6 at HO3 HB3 ⊢
       refine pk_ 0 37 1 ?_
       refine pk_ 1 38 3 ?_
       refine pk_ (v := .int .i64 ((i + 1 : Nat) : Int)) 2 39 7 ?_ (hy := Or.inl ⟨by rfl, by intro w'; go_simp⟩) 
       have hz1 : (0 : Int) ≤ (i : Int) + 1 := by omega
       have hz2 : ¬ cp = i := by omega
       have hz3 : ¬ ((l.length : Int) + 1 < (i : Int)) := by omega
       refine pk_ (v := .slice (if cp = i + 1 then some ⟨g, 0, none⟩ else some ⟨g, i + 1, none⟩) (l.length - i) (cp - (i + 1))) 3 40 15 ?_ (hy := Or.inl ⟨by rfl, by intro w'; go_simp⟩)
       refine pk_ 4 41 31 ?_
       refine pk_ 5 42 63 ?_
       refine pk_ (v := .slice (some ⟨g, i, none⟩) (l.length + 1 - i) (cp - i)) 6 43 127 ?_ (hy := Or.inl ⟨by rfl, by intro w'; go_simp⟩)
       refine one_ (i := 7) (N := some 44) (bz 8 255) rfl rfl (by kernel_rfl) (by decide) (fun K hK => ?_)
       obtain ⟨w7, hrun, hR, hgr⟩ := spec_l7Insert.copy HO3.out (by simp) i hil 24 24 3 Try.underlying24 (by have h_ := info9; obtain ⟨i0_, h1_, h2_⟩ := Option.map_eq_some_iff.1 h_; rw [h1_]; simp only [Prod.mk.injEq] at h2_; simp [h2_.2.1]) (if cp = i + 1 then some ⟨g, 0, none⟩ else some ⟨g, i + 1, none⟩) (fun h_ => if_neg h_) (cp - (i + 1)) (cp - i)
       have hBw := spec_l7Insert.below HB3.out hgr (fun k_ e_ => by cases e_; exact hgb)
       refine event_step (by rfl) (w1 := w7) (v := .int .i64 ((l.length - i : Nat) : Int)) (by simp [execOp, resolve, invoke, builtin, Act.eval, hrun, goInt]) ?_
       refine hK.out _ _ trivial (fun hHeld => ?_)
       clear hK K
       refine nm_ ?_
       refine done_ (by kernel_rfl) ?_
       have hln : ((l ++ [(⟨#[]⟩ : ByteArray)]).take (i + 1) ++ ((l ++ [(⟨#[]⟩ : ByteArray)]).drop i).take (l.length + 1 - (i + 1))).length = l.length + 1 := by simp; omega
       generalize hL : (l ++ [(⟨#[]⟩ : ByteArray)]).take (i + 1) ++ ((l ++ [(⟨#[]⟩ : ByteArray)]).drop i).take (l.length + 1 - (i + 1)) = L' at hR hln
       have hR2 : Kd.R Kd.string 9 w7 w0.heap.size (fun _ => True) (.slice (some ⟨g, 0, none⟩) L'.length cp) L' := by rw [hln]; exact hR
       have hc_ := Kd.R_cell ByteArray.empty hR2 (i : Int) (by omega) (by rw [hln]; omega)
       simp only [Int.toNat_natCast] at hc_
       obtain ⟨hx_i, hf_i⟩ := hc_
       have hp_ := spec_l7Insert.put hR i s hln.symm
       have HP := am_ hp_.1
       have HBp := am_ (spec_l7Insert.below hBw hp_.2 (fun k_ e_ => by cases e_; exact hgb))
       clear hp_ hR2 hR hBw hgr hrun HO3 HB3
       have q1_ : ((i : Int) < ((l.length + 1 : Nat) : Int)) = True := eq_true (by omega)
       have q2_ : ((i : Int) < (l.length : Int) + 1) = True := eq_true (by omega)
       generalize (if cp = i + 1 then some (⟨g, 0, none⟩ : Addr) else some ⟨g, i + 1, none⟩) = z40_
       go_wp2
       go_ret
       refine ⟨_, rfl, ?_, HBp.out⟩
       rw [← spec_l7Insert.insert hil, hL]
       exact HP.out
    ·rw [if_neg c2] at H
     cases H
   ·rw [if_neg c1] at H
    have c1b := decide_eq_false c1
    obtain rfl := Option.some.inj H
    have H := H0.out
    clear H0
    obtain ⟨c2, H⟩ := is_ H
    obtain ⟨c5, H⟩ := is_ H
    obtain ⟨cl, H⟩ := is_ H
    rw [if_neg c1] at H
    have HL := am_ cl
    obtain rfl := Option.some.inj H
    go_upto_region 7 with (first | ((with_reducible refine gate_builtin (b := .append) (xs := #[.tmp 34, .tmp 35]) rfl ?_); at_builtin; refine Kd.R_append Kd.string (w0 := w0) w0.heap.size rfl (.tmp 34) (.tmp 35) 24 9 (.string ⟨#[]⟩) 16 rfl Try.underlying24 info9 rfl (by decide) (by omega) (.slice _ l.length c0) l ⟨#[]⟩ [.string ⟨#[]⟩] (fun _ => True) (fun _ => False) rfl rfl ?aP (fun _ hk => hk.elim) ?aF ?aO ?aB ?aS ?aL ?_; (case aP => exact rfl); (case aB => exact HB.out); (case aF => exact (fun _ _ => trivial)); (case aO => exact HO.out); (case aS => exact HB.out.size); (case aL => have := HL.out; omega); intro v1 w5 ho hb hg hat; have HO2 := am_ ho; have HB2 := am_ hb; clear ho hb hg hat HO HB))
    obtain ⟨i, rfl⟩ : ∃ i : Nat, x5 = (i : Int) := ⟨x5.toNat, by omega⟩
    have hil : i ≤ l.length := by omega
    obtain ⟨g, cp, e1, hgb, _, _⟩ := Kd.R_form HO2.out (by simp)
    have e2 : v1 = .slice (some ⟨g, 0, none⟩) (l.length + 1) cp := by rw [e1]; simp
    subst e2
    clear e1
    have hcp : l.length + 1 ≤ cp := (Kd.R_reads' HO2.out).2.1
    have hw1 : IntKind.i64.wrap ((i : Int) + 1) = ((i + 1 : Nat) : Int) := by rw [i64_w]; unfold wrap64; omega
    have HO3 := am_ (Kd.R_drew HO2.out)
    have HB3 := am_ (below_drew1 HB2.out)
    clear HO2 HB2
    refine start_ (n := 8) (S := fun _ => True) (ds := []) (bz 8 0) (by kernel_rfl) rfl rfl trivial (fun hHeld => ?_)
    generalize w5.drew = w6 at HO3 HB3 ⊢
    refine pk_ 0 37 1 ?_
    refine pk_ 1 38 3 ?_
    refine pk_ (v := .int .i64 ((i + 1 : Nat) : Int)) 2 39 7 ?_ (hy := Or.inl ⟨by rfl, by intro w'; go_simp⟩) 
    have hz1 : (0 : Int) ≤ (i : Int) + 1 := by omega
    have hz2 : ¬ cp = i := by omega
    have hz3 : ¬ ((l.length : Int) + 1 < (i : Int)) := by omega
    refine pk_ (v := .slice (if cp = i + 1 then some ⟨g, 0, none⟩ else some ⟨g, i + 1, none⟩) (l.length - i) (cp - (i + 1))) 3 40 15 ?_ (hy := Or.inl ⟨by rfl, by intro w'; go_simp⟩)
    refine pk_ 4 41 31 ?_
    refine pk_ 5 42 63 ?_
    refine pk_ (v := .slice (some ⟨g, i, none⟩) (l.length + 1 - i) (cp - i)) 6 43 127 ?_ (hy := Or.inl ⟨by rfl, by intro w'; go_simp⟩)
    refine one_ (i := 7) (N := some 44) (bz 8 255) rfl rfl (by kernel_rfl) (by decide) (fun K hK => ?_)
    obtain ⟨w7, hrun, hR, hgr⟩ := spec_l7Insert.copy HO3.out (by simp) i hil 24 24 3 Try.underlying24 (by have h_ := info9; obtain ⟨i0_, h1_, h2_⟩ := Option.map_eq_some_iff.1 h_; rw [h1_]; simp only [Prod.mk.injEq] at h2_; simp [h2_.2.1]) (if cp = i + 1 then some ⟨g, 0, none⟩ else some ⟨g, i + 1, none⟩) (fun h_ => if_neg h_) (cp - (i + 1)) (cp - i)
    have hBw := spec_l7Insert.below HB3.out hgr (fun k_ e_ => by cases e_; exact hgb)
    refine event_step (by rfl) (w1 := w7) (v := .int .i64 ((l.length - i : Nat) : Int)) (by simp [execOp, resolve, invoke, builtin, Act.eval, hrun, goInt]) ?_
    refine hK.out _ _ trivial (fun hHeld => ?_)
    clear hK K
    refine nm_ ?_
    refine done_ (by kernel_rfl) ?_
    have hln : ((l ++ [(⟨#[]⟩ : ByteArray)]).take (i + 1) ++ ((l ++ [(⟨#[]⟩ : ByteArray)]).drop i).take (l.length + 1 - (i + 1))).length = l.length + 1 := by simp; omega
    generalize hL : (l ++ [(⟨#[]⟩ : ByteArray)]).take (i + 1) ++ ((l ++ [(⟨#[]⟩ : ByteArray)]).drop i).take (l.length + 1 - (i + 1)) = L' at hR hln
    have hR2 : Kd.R Kd.string 9 w7 w0.heap.size (fun _ => True) (.slice (some ⟨g, 0, none⟩) L'.length cp) L' := by rw [hln]; exact hR
    have hc_ := Kd.R_cell ByteArray.empty hR2 (i : Int) (by omega) (by rw [hln]; omega)
    simp only [Int.toNat_natCast] at hc_
    obtain ⟨hx_i, hf_i⟩ := hc_
    have hp_ := spec_l7Insert.put hR i s hln.symm
    have HP := am_ hp_.1
    have HBp := am_ (spec_l7Insert.below hBw hp_.2 (fun k_ e_ => by cases e_; exact hgb))
    clear hp_ hR2 hR hBw hgr hrun HO3 HB3
    have q1_ : ((i : Int) < ((l.length + 1 : Nat) : Int)) = True := eq_true (by omega)
    have q2_ : ((i : Int) < (l.length : Int) + 1) = True := eq_true (by omega)
    generalize (if cp = i + 1 then some (⟨g, 0, none⟩ : Addr) else some ⟨g, i + 1, none⟩) = z40_
    go_wp2
    go_ret
    refine ⟨_, rfl, ?_, HBp.out⟩
    rw [← spec_l7Insert.insert hil, hL]
    exact HP.out

/-! ### spec_ValuesOf: function 6 -/
def spec_ValuesOf.l0 : Nat → ByteArray → List ByteArray → List (S44) → Int → Int → Option (List ByteArray)
 | 0, _, _, _, _, _ => none
 | k + 1, x1, x5, x12, x13, x14 => if x14 < x13 then (if 0 ≤ x14 then (if x14 < (x12.length : Int) then ((spec_l2Of.f k ((rd_T44 x12 x14).f0) x1).bind fun t1004 => (if t1004.toList = ([] : List UInt8) then (spec_ValuesOf.l0 k x1 x5 x12 x13 (wrap64 (x14 + 1))) else ((spec_l7Insert.f k x5 t1004).bind fun y9 => (spec_ValuesOf.l0 k x1 y9 x12 x13 (wrap64 (x14 + 1)))))) else (none)) else (none)) else (some x5)
def spec_ValuesOf.f (k : Nat) (l0 : List (S44)) (a1 : ByteArray) : Option (List ByteArray) := (spec_GoodSeries.f k l0).bind fun t1001 => (if t1001 = true then (spec_ValuesOf.l0 k a1 ([] : List ByteArray) l0 (l0.length : Int) 0) else (some ([] : List ByteArray)))
theorem spec_ValuesOf.mono_l : ∀ k, (∀ y0 y1 y2 y3 y4, LeO (spec_ValuesOf.l0 k y0 y1 y2 y3 y4) (spec_ValuesOf.l0 (k + 1) y0 y1 y2 y3 y4))
 | 0 => fun _ _ _ _ _ r h => by simp [spec_ValuesOf.l0] at h
 | k + 1 => by
  have ih0 := spec_ValuesOf.mono_l k
  ·intro y0 y1 y2 y3 y4
   unfold spec_ValuesOf.l0
   repeat' with_reducible first | apply ih0 | apply spec_GoodSeries.mono | apply spec_l2Of.mono | apply spec_l7Insert.mono | apply LeO.refl | apply LeO.none | apply LeO.ite | refine LeO.bind ?_ (fun _ => ?_)
theorem spec_ValuesOf.mono : ∀ a0 a1 k, LeO (spec_ValuesOf.f k a0 a1) (spec_ValuesOf.f (k + 1) a0 a1) := by
 intro a0 a1 k
 have ih0 := spec_ValuesOf.mono_l k
 unfold spec_ValuesOf.f
 repeat' with_reducible first | apply ih0 | apply spec_GoodSeries.mono | apply spec_l2Of.mono | apply spec_l7Insert.mono | apply LeO.refl | apply LeO.none | apply LeO.ite | refine LeO.bind ?_ (fun _ => ?_)
set_option maxHeartbeats 8000000 in
set_option maxRecDepth 100000 in
theorem spec_ValuesOf.calls (k : Nat) (A0 : Option Addr) (c0 : Nat) (l0 : List (S44)) (a1 : ByteArray) (r : List ByteArray) (w : World) (hr0 : Kd.C k44 w A0 l0.length l0) (hc0 : l0.length ≤ c0) (h : spec_ValuesOf.f k l0 a1 = some r) :
  Calls Try.prog 6 #[.slice A0 l0.length c0, .string a1] w fun e w' => ∃ v0_ : Value, e = .returned (v0_) ∧ Kd.R Kd.string 9 w' w.heap.size (fun _ => True) v0_ r ∧ Below w.heap.size w w' := by
 have hu44 := Try.underlying44; have HR0 := am_ hr0; have HC0 := am_ hc0; clear hr0 hc0; have HB := am_ (Below.refl w.heap.size w); have H := h; clear h; unfold spec_ValuesOf.f at H; replace H := bs_ H; obtain ⟨t1001, A3, H⟩ := H
 by_cases c4 : t1001 = true
 ·subst c4; replace H := it_ H; have H' := am_ H; clear H; go_enter Try.func6, Try.ntmps6; go_wp2_with (first | ((with_reducible refine gate_callee (f := 18) rfl ?_); refine gl_ 10 Try.func18 #[.slice A0 l0.length c0] ?_; (with_reducible refine (spec_GoodSeries.calls k _ _ l0 true _ ?side1 ?side2 A3.out).mono ?_); (case side1 => repeat (first | exact HR0.out | (with_reducible refine Kd.C_alloc ?_ _) | (with_reducible refine Kd.C_drewN ?_ _) | (with_reducible refine Kd.C_drew ?_))); (case side2 => exact HC0.out); rintro e w5 ⟨rfl, hb⟩; refine ⟨_, rfl, ?_⟩; replace HB := am_ (below_step bl_ hb); (try clear hb)))
  go_loopg [5, 14] k (fun kq v5 v14 w' => ∃ (x5_1 : List ByteArray) (x14_1 : Int), v14 = .int .i64 x14_1 ∧ Aside0 (spec_ValuesOf.l0 kq a1 x5_1 l0 (l0.length : Int) x14_1 = some r) ∧ Aside0 (kq ≤ k) ∧ Aside0 (Kd.R Kd.string 9 w' w.heap.size (fun _ => True) v5 x5_1) ∧ Aside0 (Below w.heap.size w w'))
  case atStart => exact ⟨(([] : List ByteArray)), (0), rs_, H', ⟨Nat.le_refl _⟩, ⟨ni_⟩, ⟨bl_⟩⟩
  case round =>
   clear H'; (try clear c4); obtain ⟨x5_1, x14_1, rfl, HA, HK1, HO_5, HB⟩ := hrel
   cases gk with
   | zero => exact absurd HA.out (by simp [spec_ValuesOf.l0])
   | succ k1 =>
    have H := HA.out; clear HA; simp only [spec_ValuesOf.l0] at H
    by_cases c6 : x14_1 < (l0.length : Int)
    ·rw [if_pos c6] at H; have c6b0 := decide_eq_true c6; clear c6; replace H := is_ H; obtain ⟨c7, H⟩ := H; have c7b0 := decide_eq_true c7; clear c7; replace H := is_ H; obtain ⟨c8, H⟩ := H; have c8b0 := decide_eq_true c8; clear c8; replace H := bs_ H; obtain ⟨t1004, A9, H⟩ := H
     by_cases c10 : t1004.toList = ([] : List UInt8)
     ·rw [if_pos c10] at H; have c10b0 := eb_ c10; have c10b1 := en_ c10; clear c10; have H' := am_ H; clear H; have p1002 : 0 ≤ (x14_1 : Int) := od_; have q1002 : x14_1 < (l0.length : Int) := od_; obtain ⟨ad1002, A1002_0, c1002_0, A1002_1, c1002_1, e1002, hx1002_0, hx1002_1, hl1002_0, hi1002_0, hl1002_1, hi1002_1⟩ := at_T44 HR0.out x14_1 p1002 q1002
      cases e1002
      replace hx1002_0 := kp_ HB hx1002_0; replace hx1002_1 := kp_ HB hx1002_1; have HR1002_0 := am_ hi1002_0; have HC1002_0 := am_ hl1002_0; clear hi1002_0 hl1002_0; have HR1002_1 := am_ hi1002_1; have HC1002_1 := am_ hl1002_1; clear hi1002_1 hl1002_1; replace p1002 := eq_true p1002; replace q1002 := eq_true q1002; go_wp2_with (first | ((with_reducible refine gate_dst (N := 7) rfl ?_); refine bx_ 7 #[.slice none 0 0, .slice none 0 0] 44 ?_; intro gb1003 hg w11 hbox hb; have BK1003 := am_ (hbox); have GW1003 := am_ (gs_ hg : w.heap.size ≤ gb1003); replace HO_5 := am_ (Kd.R_below (ro_ HO_5) hb); replace HB := am_ (below_step bl_ hb); have GE1003 := GW1003; clear hb hbox hg; have hz12 := bk2_ BK1003) | ((with_reducible refine gate_callee (f := 19) rfl ?_); refine gl_ 21 Try.func19 #[.slice A1002_0 ((rd_T44 l0 x14_1).f0).length c1002_0, .string a1] ?_; (with_reducible refine (spec_l2Of.calls k1 _ _ ((rd_T44 l0 x14_1).f0) a1 t1004 _ ?side1 ?side2 A9.out).mono ?_); (case side1 => exact Kd.C_below HR1002_0.out bg_); (case side2 => exact HC1002_0.out); rintro e w13 ⟨rfl, hb⟩; refine ⟨_, rfl, ?_⟩; replace HO_5 := am_ (Kd.R_below (by (with_reducible repeat (first | apply Kd.R_alloc | apply Kd.R_drewN | apply Kd.R_drew)); exact (Kd.R_mono (Kd.R_far (p := ⟨gb1003, 1, none⟩) (Kd.R_far (p := ⟨gb1003, 0, none⟩) (Kd.R_types HO_5.out BK1003.out (by decide)) (fun _ hk => hk.2) (.slice A1002_0 ((rd_T44 l0 x14_1).f0).length c1002_0)) (fun _ hk => hk.2) (.slice A1002_1 ((rd_T44 l0 x14_1).f1).length c1002_1)) (fun _ h_ => h_.1))) hb); replace BK1003 := am_ (blk_below (g := gb1003) (o := .cells #[.slice A1002_0 ((rd_T44 l0 x14_1).f0).length c1002_0, .slice A1002_1 ((rd_T44 l0 x14_1).f1).length c1002_1] 44 (0, 0)) (by (with_reducible repeat (first | refine blk_drewN ?_ _ | refine blk_drew ?_ | refine blk_alloc ?_ _)); refine blk_put (cs := #[.slice A1002_0 ((rd_T44 l0 x14_1).f0).length c1002_0, .slice none 0 0]) ?_ 1 _ rfl; (with_reducible repeat (first | refine blk_drewN ?_ _ | refine blk_drew ?_ | refine blk_alloc ?_ _)); refine blk_put (cs := #[.slice none 0 0, .slice none 0 0]) ?_ 0 _ rfl; (with_reducible repeat (first | refine blk_drewN ?_ _ | refine blk_drew ?_ | refine blk_alloc ?_ _)); exact BK1003.out) hb); replace HB := am_ (below_step bg_ hb); (try clear hb))); go_roundg k1
      case measure => have := HK1.out; omega
      case rel => exact ⟨(x5_1), (wrap64 (x14_1 + 1)), rs_, H', ⟨by have := HK1.out; omega⟩, ⟨ro_ HO_5⟩, ⟨bg_⟩⟩
     ·rw [if_neg c10] at H; have c10b0 := nb_ c10; have c10b1 := nn_ c10; replace H := bs_ H; obtain ⟨y1005, AI, H⟩ := H; have H' := am_ H; clear H; have p1002 : 0 ≤ (x14_1 : Int) := od_; have q1002 : x14_1 < (l0.length : Int) := od_; obtain ⟨ad1002, A1002_0, c1002_0, A1002_1, c1002_1, e1002, hx1002_0, hx1002_1, hl1002_0, hi1002_0, hl1002_1, hi1002_1⟩ := at_T44 HR0.out x14_1 p1002 q1002
      cases e1002
      replace hx1002_0 := kp_ HB hx1002_0; replace hx1002_1 := kp_ HB hx1002_1; have HR1002_0 := am_ hi1002_0; have HC1002_0 := am_ hl1002_0; clear hi1002_0 hl1002_0; have HR1002_1 := am_ hi1002_1; have HC1002_1 := am_ hl1002_1; clear hi1002_1 hl1002_1; replace p1002 := eq_true p1002; replace q1002 := eq_true q1002; go_wp2_with (first | ((with_reducible refine gate_dst (N := 7) rfl ?_); refine bx_ 7 #[.slice none 0 0, .slice none 0 0] 44 ?_; intro gb1003 hg w15 hbox hb; have BK1003 := am_ (hbox); have GW1003 := am_ (gs_ hg : w.heap.size ≤ gb1003); replace HO_5 := am_ (Kd.R_below (ro_ HO_5) hb); replace HB := am_ (below_step bl_ hb); have GE1003 := GW1003; clear hb hbox hg; have hz16 := bk2_ BK1003) | ((with_reducible refine gate_callee (f := 19) rfl ?_); refine gl_ 21 Try.func19 #[.slice A1002_0 ((rd_T44 l0 x14_1).f0).length c1002_0, .string a1] ?_; (with_reducible refine (spec_l2Of.calls k1 _ _ ((rd_T44 l0 x14_1).f0) a1 t1004 _ ?side1 ?side2 A9.out).mono ?_); (case side1 => exact Kd.C_below HR1002_0.out bg_); (case side2 => exact HC1002_0.out); rintro e w17 ⟨rfl, hb⟩; refine ⟨_, rfl, ?_⟩; replace HO_5 := am_ (Kd.R_below (by (with_reducible repeat (first | apply Kd.R_alloc | apply Kd.R_drewN | apply Kd.R_drew)); exact (Kd.R_mono (Kd.R_far (p := ⟨gb1003, 1, none⟩) (Kd.R_far (p := ⟨gb1003, 0, none⟩) (Kd.R_types HO_5.out BK1003.out (by decide)) (fun _ hk => hk.2) (.slice A1002_0 ((rd_T44 l0 x14_1).f0).length c1002_0)) (fun _ hk => hk.2) (.slice A1002_1 ((rd_T44 l0 x14_1).f1).length c1002_1)) (fun _ h_ => h_.1))) hb); replace BK1003 := am_ (blk_below (g := gb1003) (o := .cells #[.slice A1002_0 ((rd_T44 l0 x14_1).f0).length c1002_0, .slice A1002_1 ((rd_T44 l0 x14_1).f1).length c1002_1] 44 (0, 0)) (by (with_reducible repeat (first | refine blk_drewN ?_ _ | refine blk_drew ?_ | refine blk_alloc ?_ _)); refine blk_put (cs := #[.slice A1002_0 ((rd_T44 l0 x14_1).f0).length c1002_0, .slice none 0 0]) ?_ 1 _ rfl; (with_reducible repeat (first | refine blk_drewN ?_ _ | refine blk_drew ?_ | refine blk_alloc ?_ _)); refine blk_put (cs := #[.slice none 0 0, .slice none 0 0]) ?_ 0 _ rfl; (with_reducible repeat (first | refine blk_drewN ?_ _ | refine blk_drew ?_ | refine blk_alloc ?_ _)); exact BK1003.out) hb); replace HB := am_ (below_step bg_ hb); (try clear hb)) | ((with_reducible refine gate_callee (f := 20) rfl ?_); refine gl_ 26 Try.func20 #[u5, .string t1004] ?_; (with_reducible refine (spec_l7Insert.calls k1 u5 x5_1 t1004 y1005 w _ bg_ (ro_ HO_5) AI.out).mono ?_); rintro e w18 ⟨v1006, rfl, ho, hb⟩; refine ⟨_, rfl, ?_⟩; have HO1007 := am_ ho; clear HB HO_5; have HB := am_ hb; clear ho hb)); go_roundg k1
      case measure => have := HK1.out; omega
      case rel => exact ⟨(y1005), (wrap64 (x14_1 + 1)), rs_, H', ⟨by have := HK1.out; omega⟩, ⟨ro_ HO1007⟩, ⟨bg_⟩⟩
    ·rw [if_neg c6] at H; have c6b0 := decide_eq_false c6; clear c6; obtain rfl := si_ H; go_wp2; go_ret; exact ⟨_, rf_, by (with_reducible repeat (first | apply Kd.R_alloc | apply Kd.R_drewN | apply Kd.R_drew)); exact HO_5.out, bl_⟩
 ·replace c4 := Bool.eq_false_iff.mpr c4; subst c4; replace H := if_ H; obtain rfl := si_ H; go_enter Try.func6, Try.ntmps6; go_wp2_with (first | ((with_reducible refine gate_callee (f := 18) rfl ?_); refine gl_ 10 Try.func18 #[.slice A0 l0.length c0] ?_; (with_reducible refine (spec_GoodSeries.calls k _ _ l0 false _ ?side1 ?side2 A3.out).mono ?_); (case side1 => repeat (first | exact HR0.out | (with_reducible refine Kd.C_alloc ?_ _) | (with_reducible refine Kd.C_drewN ?_ _) | (with_reducible refine Kd.C_drew ?_))); (case side2 => exact HC0.out); rintro e w19 ⟨rfl, hb⟩; refine ⟨_, rfl, ?_⟩; replace HB := am_ (below_step bl_ hb); (try clear hb))); go_ret; exact ⟨_, rf_, ni_, bl_⟩

/-! ### cmp_Less_string: function 78 -/
def cmp_Less_string.f (a0 : ByteArray) (a1 : ByteArray) : Option (Bool) := (cmp_isNaN_string.f a0).bind fun t1001 => (if t1001 = true then ((cmp_isNaN_string.f a1).bind fun t1002 => (if t1002 = true then (some (Op.bytesLess a0.toList a1.toList)) else (some true))) else (some (Op.bytesLess a0.toList a1.toList)))
set_option maxHeartbeats 8000000 in
set_option maxRecDepth 100000 in
theorem cmp_Less_string.calls (a0 : ByteArray) (a1 : ByteArray) (r : Bool) (w : World) (h : cmp_Less_string.f a0 a1 = some r) :
  Calls Try.prog 78 #[.string a0, .string a1] w fun e w' => e = .returned (.bool r) ∧ Drawn0 w w' := by
 have H := h; clear h; unfold cmp_Less_string.f at H; replace H := bs_ H; obtain ⟨t1001, A3, H⟩ := H
 by_cases c4 : t1001 = true
 ·subst c4; replace H := it_ H; replace H := bs_ H; obtain ⟨t1002, A5, H⟩ := H
  by_cases c6 : t1002 = true
  ·subst c6; replace H := it_ H; obtain rfl := si_ H; go_enter Try.func78, Try.ntmps78; go_wp2_with (first | ((with_reducible refine gate_callee (f := 94) rfl ?_); refine gl_ 6 Try.func94 #[.string a0] ?_; (with_reducible refine (cmp_isNaN_string.calls a0 true _ A3.out).mono ?_); rintro e w' ⟨rfl, ⟨nd, rfl⟩⟩; refine ⟨_, rfl, ?_⟩) | (go_at_call 94; (with_reducible refine (cmp_isNaN_string.calls a1 true _ A5.out).mono ?_); rintro e w' ⟨rfl, ⟨nd, rfl⟩⟩)); go_ret; exact ⟨by first | rfl | (simp; done) | (simp [*]; done), by repeat (first | exact Drawn0.refl _ | apply Drawn0.step)⟩
  ·replace c6 := Bool.eq_false_iff.mpr c6; subst c6; replace H := if_ H; obtain rfl := si_ H; go_enter Try.func78, Try.ntmps78; go_wp2_with (first | ((with_reducible refine gate_callee (f := 94) rfl ?_); refine gl_ 6 Try.func94 #[.string a0] ?_; (with_reducible refine (cmp_isNaN_string.calls a0 true _ A3.out).mono ?_); rintro e w' ⟨rfl, ⟨nd, rfl⟩⟩; refine ⟨_, rfl, ?_⟩) | (go_at_call 94; (with_reducible refine (cmp_isNaN_string.calls a1 false _ A5.out).mono ?_); rintro e w' ⟨rfl, ⟨nd, rfl⟩⟩)); go_ret; exact ⟨by first | rfl | (simp; done) | (simp [*]; done), by repeat (first | exact Drawn0.refl _ | apply Drawn0.step)⟩
 ·replace c4 := Bool.eq_false_iff.mpr c4; subst c4; replace H := if_ H; obtain rfl := si_ H; go_enter Try.func78, Try.ntmps78; go_wp2_with (first | ((with_reducible refine gate_callee (f := 94) rfl ?_); refine gl_ 6 Try.func94 #[.string a0] ?_; (with_reducible refine (cmp_isNaN_string.calls a0 false _ A3.out).mono ?_); rintro e w' ⟨rfl, ⟨nd, rfl⟩⟩; refine ⟨_, rfl, ?_⟩)); go_ret; exact ⟨by first | rfl | (simp; done) | (simp [*]; done), by repeat (first | exact Drawn0.refl _ | apply Drawn0.step)⟩

/-! ### impl_ValuesOf: function 8 -/
theorem impl_ValuesOf.encd (xs : List ByteArray) : encs Value.string xs = (xs.map fun x : ByteArray => x.data.toList).map Go.Proofs.encStr := by simp [encs]
def impl_ValuesOf.srt (xs : List ByteArray) : List ByteArray := ((xs.map fun x : ByteArray => x.data.toList).mergeSort fun x y => decide (x ≤ y)).map fun l => ⟨l.toArray⟩
def impl_ValuesOf.cmp (xs : List ByteArray) : List ByteArray := (Go.Lib.compact (xs.map fun x : ByteArray => x.data.toList)).map fun l => ⟨l.toArray⟩
theorem impl_ValuesOf.below {w0 W W2 : World} {row : Option Nat} (hB : Below w0.heap.size w0 W) (hg : W.grownBy W2 row) (hr : ∀ k, row = some k → w0.heap.size ≤ k) : Below w0.heap.size w0 W2 :=
  ⟨hg.os.trans hB.os, hg.tape.trans hB.tape, hg.output.trans hB.output, Nat.le_trans hB.size hg.size, fun i hi => (hg.block i (Nat.lt_of_lt_of_le hi hB.size) (fun e_ => by have := hr i e_.symm; omega)).trans (hB.block i hi)⟩
theorem impl_ValuesOf.sort (xs : List ByteArray) (v : Value) (ok : Nat → Prop) (w0 w : World) (hB : Below w0.heap.size w0 w) (h : Kd.R Kd.string 9 w w0.heap.size ok v xs) (hl : xs.length ≤ 1000000) :
    Calls Try.prog 24 #[v] w fun e w' => e = .returned (.tuple #[]) ∧ Kd.R Kd.string 9 w' w0.heap.size ok v (impl_ValuesOf.srt xs) ∧ Below w0.heap.size w0 w' := by
  rcases Nat.eq_zero_or_pos xs.length with h0 | h0
  · obtain rfl := List.eq_nil_of_length_eq_zero h0
    obtain ⟨A, c, rfl⟩ := Kd.R_slice h
    refine (Try.slices_Sort_string_none A c w).mono ?_
    rintro e w' ⟨rfl, rfl⟩
    exact ⟨rfl, by simpa [impl_ValuesOf.srt] using h, hB⟩
  · obtain ⟨g, c, rfl, _⟩ := Kd.R_form h h0
    have ho := Kd.own_of_R h
    rw [impl_ValuesOf.encd] at ho
    obtain ⟨g', c', e0, hge, hlt, h1, h2, _, hH⟩ := Go.Lib.holds_of_ownsRow ho (by simp)
    cases e0
    have hc := Try.slices_Sort_string g 0 c (xs.map fun x : ByteArray => x.data.toList) w hH hlt (by simp; omega)
    rw [List.length_map] at hc
    refine hc.mono ?_
    rintro e w' ⟨rfl, n, os, rfl⟩
    have hg : w.grownBy _ (some g) := grownBy_sorted (w := w) (g := g) (n := n) (os := os) ((xs.map fun x : ByteArray => x.data.toList).mergeSort fun x y => decide (x ≤ y)).toArray
    refine ⟨rfl, ?_, impl_ValuesOf.below hB hg (fun k e_ => by cases e_; exact hge)⟩
    rcases ho.2 with ⟨hn, _⟩ | ⟨g2, c2, cur, e2, _, hgb, _, _, hsz, _⟩
    · cases hn
    · cases e2
      have hlen : ((xs.map fun x : ByteArray => x.data.toList).mergeSort fun x y => decide (x ≤ y)).length = (xs.map fun x : ByteArray => x.data.toList).length := List.length_mergeSort _
      have := ownsRow_sorted (n := n) (os := os) (base := w0.heap.size) hlen hge hgb (by simpa using h1) h2 hsz
      refine Kd.R_of_own ?_ h.1
      rw [impl_ValuesOf.encd, show (impl_ValuesOf.srt xs).length = xs.length from by simp [impl_ValuesOf.srt]]
      have e3 : (impl_ValuesOf.srt xs).map (fun x : ByteArray => x.data.toList) = (xs.map fun x : ByteArray => x.data.toList).mergeSort fun x y => decide (x ≤ y) := by simp [impl_ValuesOf.srt, Function.comp_def]
      rw [e3]
      rw [List.length_map] at this
      exact this
theorem impl_ValuesOf.compact (xs : List ByteArray) (v : Value) (ok : Nat → Prop) (w0 w : World) (hB : Below w0.heap.size w0 w) (h : Kd.R Kd.string 9 w w0.heap.size ok v xs) (hl : xs.length ≤ 1000000) :
    Calls Try.prog 25 #[v] w fun e w' => ∃ v1, e = .returned v1 ∧ Kd.R Kd.string 9 w' w0.heap.size ok v1 (impl_ValuesOf.cmp xs) ∧ Below w0.heap.size w0 w' := by
  rcases Nat.eq_zero_or_pos xs.length with h0 | h0
  · obtain rfl := List.eq_nil_of_length_eq_zero h0
    obtain ⟨A, c, rfl⟩ := Kd.R_slice h
    refine (Try.slices_Compact_string_empty A c w).mono ?_
    rintro e w' ⟨rfl, rfl⟩
    exact ⟨_, rfl, h, hB⟩
  · obtain ⟨g, c, rfl, _⟩ := Kd.R_form h h0
    have ho := Kd.own_of_R h
    rw [impl_ValuesOf.encd] at ho
    obtain ⟨g', c', e0, hge, hlt, h1, h2, _, hH⟩ := Go.Lib.holds_of_ownsRow ho (by simp)
    cases e0
    have hc := Try.slices_Compact_string g 0 c (xs.map fun x : ByteArray => x.data.toList) w hH (by simp; omega) (by simpa using h1)
    rw [List.length_map] at hc
    refine hc.mono ?_
    rintro e w' ⟨rfl, q, rfl⟩
    have hk := Go.Lib.compact_length_le (xs.map fun x : ByteArray => x.data.toList)
    rw [List.length_map] at hk
    have hg : w.grownBy (Go.Sort.putRow Go.Proofs.encStr (Go.Sort.ahead w q) g 0 (Go.Lib.compact (xs.map fun x : ByteArray => x.data.toList) ++ List.replicate (xs.length - (Go.Lib.compact (xs.map fun x : ByteArray => x.data.toList)).length) []).toArray) (some g) := by
      have := grownBy_sorted (w := w) (g := g) (n := q) (os := #[]) (Go.Lib.compact (xs.map fun x : ByteArray => x.data.toList) ++ List.replicate (xs.length - (Go.Lib.compact (xs.map fun x : ByteArray => x.data.toList)).length) []).toArray
      rwa [Go.Sort.grow_empty] at this
    refine ⟨_, rfl, ?_, impl_ValuesOf.below hB hg (fun k e_ => by cases e_; exact hge)⟩
    have := Go.Lib.ownsRow_putRow (q := q) (k := (Go.Lib.compact (xs.map fun x : ByteArray => x.data.toList)).length) (ys := Go.Lib.compact (xs.map fun x : ByteArray => x.data.toList) ++ List.replicate (xs.length - (Go.Lib.compact (xs.map fun x : ByteArray => x.data.toList)).length) []) ho (by rw [List.length_append, List.length_replicate]; omega) hk
    rw [List.take_left] at this
    refine Kd.R_of_own ?_ h.1
    have e3 : (impl_ValuesOf.cmp xs).map (fun x : ByteArray => x.data.toList) = Go.Lib.compact (xs.map fun x : ByteArray => x.data.toList) := by simp [impl_ValuesOf.cmp, Function.comp_def]
    rw [impl_ValuesOf.encd, e3, show (impl_ValuesOf.cmp xs).length = (Go.Lib.compact (xs.map fun x : ByteArray => x.data.toList)).length from by simp [impl_ValuesOf.cmp]]
    exact this
def impl_ValuesOf.l0 : Nat → ByteArray → List ByteArray → List (S44) → Int → Int → Option (List ByteArray)
 | 0, _, _, _, _, _ => none
 | k + 1, x1, x5, x12, x13, x14 => if x14 < x13 then (if 0 ≤ x14 then (if x14 < (x12.length : Int) then ((impl_valueOf.f k ((rd_T44 x12 x14).f0) x1).bind fun t1004 => (if t1004.toList = ([] : List UInt8) then (impl_ValuesOf.l0 k x1 x5 x12 x13 (wrap64 (x14 + 1))) else (if x5.length < 8796093022208 then (impl_ValuesOf.l0 k x1 (x5 ++ [t1004]) x12 x13 (wrap64 (x14 + 1))) else (none)))) else (none)) else (none)) else (if x5.length ≤ 1000000 then (some (impl_ValuesOf.cmp (impl_ValuesOf.srt x5))) else (none))
def impl_ValuesOf.f (k : Nat) (l0 : List (S44)) (a1 : ByteArray) : Option (List ByteArray) := (impl_GoodSeries.f k l0).bind fun t1001 => (if t1001 = true then (impl_ValuesOf.l0 k a1 ([] : List ByteArray) l0 (l0.length : Int) 0) else (some ([] : List ByteArray)))
theorem impl_ValuesOf.mono_l : ∀ k, (∀ y0 y1 y2 y3 y4, LeO (impl_ValuesOf.l0 k y0 y1 y2 y3 y4) (impl_ValuesOf.l0 (k + 1) y0 y1 y2 y3 y4))
 | 0 => fun _ _ _ _ _ r h => by simp [impl_ValuesOf.l0] at h
 | k + 1 => by
  have ih0 := impl_ValuesOf.mono_l k
  ·intro y0 y1 y2 y3 y4
   unfold impl_ValuesOf.l0
   repeat' with_reducible first | apply ih0 | apply impl_GoodSeries.mono | apply impl_valueOf.mono | apply LeO.refl | apply LeO.none | apply LeO.ite | refine LeO.bind ?_ (fun _ => ?_)
theorem impl_ValuesOf.mono : ∀ a0 a1 k, LeO (impl_ValuesOf.f k a0 a1) (impl_ValuesOf.f (k + 1) a0 a1) := by
 intro a0 a1 k
 have ih0 := impl_ValuesOf.mono_l k
 unfold impl_ValuesOf.f
 repeat' with_reducible first | apply ih0 | apply impl_GoodSeries.mono | apply impl_valueOf.mono | apply LeO.refl | apply LeO.none | apply LeO.ite | refine LeO.bind ?_ (fun _ => ?_)
set_option maxHeartbeats 8000000 in
set_option maxRecDepth 100000 in
theorem impl_ValuesOf.calls (k : Nat) (A0 : Option Addr) (c0 : Nat) (l0 : List (S44)) (a1 : ByteArray) (r : List ByteArray) (w : World) (hr0 : Kd.C k44 w A0 l0.length l0) (hc0 : l0.length ≤ c0) (h : impl_ValuesOf.f k l0 a1 = some r) :
  Calls Try.prog 8 #[.slice A0 l0.length c0, .string a1] w fun e w' => ∃ v0_ : Value, e = .returned (v0_) ∧ Kd.R Kd.string 9 w' w.heap.size (fun _ => True) v0_ r ∧ Below w.heap.size w w' := by
 have hu44 := Try.underlying44; have HR0 := am_ hr0; have HC0 := am_ hc0; clear hr0 hc0; have HB := am_ (Below.refl w.heap.size w); have H := h; clear h; unfold impl_ValuesOf.f at H; replace H := bs_ H; obtain ⟨t1001, A3, H⟩ := H
 by_cases c4 : t1001 = true
 ·subst c4; replace H := it_ H; have H' := am_ H; clear H; go_enter Try.func8, Try.ntmps8; go_wp2_with (first | ((with_reducible refine gate_callee (f := 22) rfl ?_); refine gl_ 10 Try.func22 #[.slice A0 l0.length c0] ?_; (with_reducible refine (impl_GoodSeries.calls k _ _ l0 true _ ?side1 ?side2 A3.out).mono ?_); (case side1 => repeat (first | exact HR0.out | (with_reducible refine Kd.C_alloc ?_ _) | (with_reducible refine Kd.C_drewN ?_ _) | (with_reducible refine Kd.C_drew ?_))); (case side2 => exact HC0.out); rintro e w5 ⟨rfl, hb⟩; refine ⟨_, rfl, ?_⟩; replace HB := am_ (below_step bl_ hb); (try clear hb)))
  go_loopg [5, 14] k (fun kq v5 v14 w' => ∃ (x5_1 : List ByteArray) (x14_1 : Int), v14 = .int .i64 x14_1 ∧ Aside0 (impl_ValuesOf.l0 kq a1 x5_1 l0 (l0.length : Int) x14_1 = some r) ∧ Aside0 (kq ≤ k) ∧ Aside0 (Kd.R Kd.string 9 w' w.heap.size (fun _ => True) v5 x5_1) ∧ Aside0 (Below w.heap.size w w'))
  case atStart => exact ⟨(([] : List ByteArray)), (0), rs_, H', ⟨Nat.le_refl _⟩, ⟨ni_⟩, ⟨bl_⟩⟩
  case round =>
   clear H'; (try clear c4); obtain ⟨x5_1, x14_1, rfl, HA, HK1, HO_5, HB⟩ := hrel
   cases gk with
   | zero => exact absurd HA.out (by simp [impl_ValuesOf.l0])
   | succ k1 =>
    have H := HA.out; clear HA; simp only [impl_ValuesOf.l0] at H
    by_cases c6 : x14_1 < (l0.length : Int)
    ·rw [if_pos c6] at H; have c6b0 := decide_eq_true c6; clear c6; replace H := is_ H; obtain ⟨c7, H⟩ := H; have c7b0 := decide_eq_true c7; clear c7; replace H := is_ H; obtain ⟨c8, H⟩ := H; have c8b0 := decide_eq_true c8; clear c8; replace H := bs_ H; obtain ⟨t1004, A9, H⟩ := H
     by_cases c10 : t1004.toList = ([] : List UInt8)
     ·rw [if_pos c10] at H; have c10b0 := eb_ c10; have c10b1 := en_ c10; clear c10; have H' := am_ H; clear H; have p1002 : 0 ≤ (x14_1 : Int) := od_; have q1002 : x14_1 < (l0.length : Int) := od_; obtain ⟨ad1002, A1002_0, c1002_0, A1002_1, c1002_1, e1002, hx1002_0, hx1002_1, hl1002_0, hi1002_0, hl1002_1, hi1002_1⟩ := at_T44 HR0.out x14_1 p1002 q1002
      cases e1002
      replace hx1002_0 := kp_ HB hx1002_0; replace hx1002_1 := kp_ HB hx1002_1; have HR1002_0 := am_ hi1002_0; have HC1002_0 := am_ hl1002_0; clear hi1002_0 hl1002_0; have HR1002_1 := am_ hi1002_1; have HC1002_1 := am_ hl1002_1; clear hi1002_1 hl1002_1; replace p1002 := eq_true p1002; replace q1002 := eq_true q1002; go_wp2_with (first | ((with_reducible refine gate_dst (N := 7) rfl ?_); refine bx_ 7 #[.slice none 0 0, .slice none 0 0] 44 ?_; intro gb1003 hg w11 hbox hb; have BK1003 := am_ (hbox); have GW1003 := am_ (gs_ hg : w.heap.size ≤ gb1003); replace HO_5 := am_ (Kd.R_below (ro_ HO_5) hb); replace HB := am_ (below_step bl_ hb); have GE1003 := GW1003; clear hb hbox hg; have hz12 := bk2_ BK1003) | ((with_reducible refine gate_callee (f := 23) rfl ?_); refine gl_ 21 Try.func23 #[.slice A1002_0 ((rd_T44 l0 x14_1).f0).length c1002_0, .string a1] ?_; (with_reducible refine (impl_valueOf.calls k1 _ _ ((rd_T44 l0 x14_1).f0) a1 t1004 _ ?side1 ?side2 A9.out).mono ?_); (case side1 => exact Kd.C_below HR1002_0.out bg_); (case side2 => exact HC1002_0.out); rintro e w13 ⟨rfl, hb⟩; refine ⟨_, rfl, ?_⟩; replace HO_5 := am_ (Kd.R_below (by (with_reducible repeat (first | apply Kd.R_alloc | apply Kd.R_drewN | apply Kd.R_drew)); exact (Kd.R_mono (Kd.R_far (p := ⟨gb1003, 1, none⟩) (Kd.R_far (p := ⟨gb1003, 0, none⟩) (Kd.R_types HO_5.out BK1003.out (by decide)) (fun _ hk => hk.2) (.slice A1002_0 ((rd_T44 l0 x14_1).f0).length c1002_0)) (fun _ hk => hk.2) (.slice A1002_1 ((rd_T44 l0 x14_1).f1).length c1002_1)) (fun _ h_ => h_.1))) hb); replace BK1003 := am_ (blk_below (g := gb1003) (o := .cells #[.slice A1002_0 ((rd_T44 l0 x14_1).f0).length c1002_0, .slice A1002_1 ((rd_T44 l0 x14_1).f1).length c1002_1] 44 (0, 0)) (by (with_reducible repeat (first | refine blk_drewN ?_ _ | refine blk_drew ?_ | refine blk_alloc ?_ _)); refine blk_put (cs := #[.slice A1002_0 ((rd_T44 l0 x14_1).f0).length c1002_0, .slice none 0 0]) ?_ 1 _ rfl; (with_reducible repeat (first | refine blk_drewN ?_ _ | refine blk_drew ?_ | refine blk_alloc ?_ _)); refine blk_put (cs := #[.slice none 0 0, .slice none 0 0]) ?_ 0 _ rfl; (with_reducible repeat (first | refine blk_drewN ?_ _ | refine blk_drew ?_ | refine blk_alloc ?_ _)); exact BK1003.out) hb); replace HB := am_ (below_step bg_ hb); (try clear hb))); go_roundg k1
      case measure => have := HK1.out; omega
      case rel => exact ⟨(x5_1), (wrap64 (x14_1 + 1)), rs_, H', ⟨by have := HK1.out; omega⟩, ⟨ro_ HO_5⟩, ⟨bg_⟩⟩
     ·rw [if_neg c10] at H; have c10b0 := nb_ c10; have c10b1 := nn_ c10; replace H := is_ H; obtain ⟨c14, H⟩ := H; have LMc14 := am_ c14; clear c14; obtain ⟨y1005, hy1005⟩ : ∃ y_ : List ByteArray, y_ = (x5_1 ++ [t1004]) := ⟨_, rfl⟩; replace H : (impl_ValuesOf.l0 k1 a1 y1005 l0 (l0.length : Int) (wrap64 (x14_1 + 1))) = some r := by first | (rw [hy1005]; with_reducible exact H) | (have H2_ := (Option.bind_some _ _).symm.trans H; rw [hy1005]; with_reducible exact H2_) | (have H2_ := (Option.bind_some _ _).symm.trans H; with_reducible exact H2_) | with_reducible exact H | (rw [hy1005]; exact H) | exact H
      have Ny1005 := am_ hy1005; clear hy1005; have H' := am_ H; clear H; have p1002 : 0 ≤ (x14_1 : Int) := od_; have q1002 : x14_1 < (l0.length : Int) := od_; obtain ⟨ad1002, A1002_0, c1002_0, A1002_1, c1002_1, e1002, hx1002_0, hx1002_1, hl1002_0, hi1002_0, hl1002_1, hi1002_1⟩ := at_T44 HR0.out x14_1 p1002 q1002
      cases e1002
      replace hx1002_0 := kp_ HB hx1002_0; replace hx1002_1 := kp_ HB hx1002_1; have HR1002_0 := am_ hi1002_0; have HC1002_0 := am_ hl1002_0; clear hi1002_0 hl1002_0; have HR1002_1 := am_ hi1002_1; have HC1002_1 := am_ hl1002_1; clear hi1002_1 hl1002_1; replace p1002 := eq_true p1002; replace q1002 := eq_true q1002; go_wp2_with (first | ((with_reducible refine gate_dst (N := 7) rfl ?_); refine bx_ 7 #[.slice none 0 0, .slice none 0 0] 44 ?_; intro gb1003 hg w15 hbox hb; have BK1003 := am_ (hbox); have GW1003 := am_ (gs_ hg : w.heap.size ≤ gb1003); replace HO_5 := am_ (Kd.R_below (ro_ HO_5) hb); replace HB := am_ (below_step bl_ hb); have GE1003 := GW1003; clear hb hbox hg; have hz16 := bk2_ BK1003) | ((with_reducible refine gate_callee (f := 23) rfl ?_); refine gl_ 21 Try.func23 #[.slice A1002_0 ((rd_T44 l0 x14_1).f0).length c1002_0, .string a1] ?_; (with_reducible refine (impl_valueOf.calls k1 _ _ ((rd_T44 l0 x14_1).f0) a1 t1004 _ ?side1 ?side2 A9.out).mono ?_); (case side1 => exact Kd.C_below HR1002_0.out bg_); (case side2 => exact HC1002_0.out); rintro e w17 ⟨rfl, hb⟩; refine ⟨_, rfl, ?_⟩; replace HO_5 := am_ (Kd.R_below (by (with_reducible repeat (first | apply Kd.R_alloc | apply Kd.R_drewN | apply Kd.R_drew)); exact (Kd.R_mono (Kd.R_far (p := ⟨gb1003, 1, none⟩) (Kd.R_far (p := ⟨gb1003, 0, none⟩) (Kd.R_types HO_5.out BK1003.out (by decide)) (fun _ hk => hk.2) (.slice A1002_0 ((rd_T44 l0 x14_1).f0).length c1002_0)) (fun _ hk => hk.2) (.slice A1002_1 ((rd_T44 l0 x14_1).f1).length c1002_1)) (fun _ h_ => h_.1))) hb); replace BK1003 := am_ (blk_below (g := gb1003) (o := .cells #[.slice A1002_0 ((rd_T44 l0 x14_1).f0).length c1002_0, .slice A1002_1 ((rd_T44 l0 x14_1).f1).length c1002_1] 44 (0, 0)) (by (with_reducible repeat (first | refine blk_drewN ?_ _ | refine blk_drew ?_ | refine blk_alloc ?_ _)); refine blk_put (cs := #[.slice A1002_0 ((rd_T44 l0 x14_1).f0).length c1002_0, .slice none 0 0]) ?_ 1 _ rfl; (with_reducible repeat (first | refine blk_drewN ?_ _ | refine blk_drew ?_ | refine blk_alloc ?_ _)); refine blk_put (cs := #[.slice none 0 0, .slice none 0 0]) ?_ 0 _ rfl; (with_reducible repeat (first | refine blk_drewN ?_ _ | refine blk_drew ?_ | refine blk_alloc ?_ _)); exact BK1003.out) hb); replace HB := am_ (below_step bg_ hb); (try clear hb)) | ((with_reducible refine gate_builtin (b := .append) (xs := #[.tmp 24, .tmp 26]) rfl ?_); at_builtin; refine Kd.R_append Kd.string (w0 := w) w.heap.size rfl (.tmp 24) (.tmp 26) 24 9 (.string ⟨#[]⟩) 16 rfl Try.underlying24 info9 rfl (by decide) (by omega) u5 x5_1 t1004 [.string t1004] (fun _ => True) (fun _ => False) rfl rfl ?aP (fun _ hk => hk.elim) ?aF ?aO ?aB ?aS ?aL ?_; (case aP => exact rfl); (case aB => exact bg_); (case aF => exact (fun _ _ => trivial)); (case aO => exact (ro_ HO_5)); (case aS => exact (below_size bg_)); (case aL => have := LMc14.out; omega); intro v1006 w18 ho hb hg hat; rw [← Ny1005.out] at ho; have n0_ := am_ (blk_grown (g := gb1003) (o := .cells #[.slice A1002_0 ((rd_T44 l0 x14_1).f0).length c1002_0, .slice A1002_1 ((rd_T44 l0 x14_1).f1).length c1002_1] 44 (0, 0)) (vk_ BK1003) hg (Kd.R_ne HO_5.out BK1003.out (by decide))); have n1_ := am_ (hb); have n2_ := am_ (ho); clear BK1003; clear HB; clear HO_5; have BK1003 := n0_; have HB := n1_; have HO1007 := n2_; clear n0_ n1_ n2_; clear ho hb hg hat)); go_roundg k1
      case measure => have := HK1.out; omega
      case rel => exact ⟨(y1005), (wrap64 (x14_1 + 1)), rs_, H', ⟨by have := HK1.out; omega⟩, ⟨ro_ HO1007⟩, ⟨bg_⟩⟩
    ·rw [if_neg c6] at H; have c6b0 := decide_eq_false c6; clear c6; replace H := is_ H; obtain ⟨cL, H⟩ := H; have HLM := am_ cL; clear cL; obtain rfl := si_ H; go_wp2_with (first | (go_at_call 24; (with_reducible refine (impl_ValuesOf.sort x5_1 u5 (fun _ => True) w _ HB.out HO_5.out HLM.out).mono ?_); rintro e w90 ⟨rfl, ho, hb⟩; have HO6 := am_ ho; clear HB HO_5; have HB := am_ hb; clear ho hb) | (go_at_call 25; (with_reducible refine (impl_ValuesOf.compact (impl_ValuesOf.srt x5_1) u5 (fun _ => True) w _ HB.out HO6.out (by have := HLM.out; simpa [impl_ValuesOf.srt] using this)).mono ?_); rintro e w91 ⟨v91, rfl, ho, hb⟩; have HO7 := am_ ho; clear HB HO6; have HB := am_ hb; clear ho hb)); go_ret; exact ⟨_, rf_, HO7.out, HB.out⟩
 ·replace c4 := Bool.eq_false_iff.mpr c4; subst c4; replace H := if_ H; obtain rfl := si_ H; go_enter Try.func8, Try.ntmps8; go_wp2_with (first | ((with_reducible refine gate_callee (f := 22) rfl ?_); refine gl_ 10 Try.func22 #[.slice A0 l0.length c0] ?_; (with_reducible refine (impl_GoodSeries.calls k _ _ l0 false _ ?side1 ?side2 A3.out).mono ?_); (case side1 => repeat (first | exact HR0.out | (with_reducible refine Kd.C_alloc ?_ _) | (with_reducible refine Kd.C_drewN ?_ _) | (with_reducible refine Kd.C_drew ?_))); (case side2 => exact HC0.out); rintro e w19 ⟨rfl, hb⟩; refine ⟨_, rfl, ?_⟩; replace HB := am_ (below_step bl_ hb); (try clear hb))); go_ret; exact ⟨_, rf_, ni_, bl_⟩

/-! ### laws_eqStringS: function 9 -/
def laws_eqStringS.l0 : Nat → List ByteArray → List ByteArray → Int → Option (Bool)
 | 0, _, _, _ => none
 | k + 1, x0, x1, x5 => if x5 < (x0.length : Int) then (if 0 ≤ x5 then (if x5 < (x1.length : Int) then (if (rdOf ByteArray.empty x0 x5).toList = (rdOf ByteArray.empty x1 x5).toList then (laws_eqStringS.l0 k x0 x1 (wrap64 (x5 + 1))) else (some false)) else (none)) else (none)) else (some true)
def laws_eqStringS.f (k : Nat) (l0 : List ByteArray) (l1 : List ByteArray) : Option (Bool) := if (l0.length : Int) = (l1.length : Int) then (laws_eqStringS.l0 k l0 l1 0) else (some false)
theorem laws_eqStringS.mono_l : ∀ k, (∀ y0 y1 y2, LeO (laws_eqStringS.l0 k y0 y1 y2) (laws_eqStringS.l0 (k + 1) y0 y1 y2))
 | 0 => fun _ _ _ r h => by simp [laws_eqStringS.l0] at h
 | k + 1 => by
  have ih0 := laws_eqStringS.mono_l k
  ·intro y0 y1 y2
   unfold laws_eqStringS.l0
   repeat' with_reducible first | apply ih0 | apply LeO.refl | apply LeO.none | apply LeO.ite | refine LeO.bind ?_ (fun _ => ?_)
theorem laws_eqStringS.mono : ∀ a0 a1 k, LeO (laws_eqStringS.f k a0 a1) (laws_eqStringS.f (k + 1) a0 a1) := by
 intro a0 a1 k
 have ih0 := laws_eqStringS.mono_l k
 unfold laws_eqStringS.f
 repeat' with_reducible first | apply ih0 | apply LeO.refl | apply LeO.none | apply LeO.ite | refine LeO.bind ?_ (fun _ => ?_)
set_option maxHeartbeats 8000000 in
set_option maxRecDepth 100000 in
theorem laws_eqStringS.calls (k : Nat) (A0 : Option Addr) (c0 : Nat) (l0 : List ByteArray) (A1 : Option Addr) (c1 : Nat) (l1 : List ByteArray) (r : Bool) (w : World) (hr0 : Kd.C Kd.string w A0 l0.length l0) (hc0 : l0.length ≤ c0) (hr1 : Kd.C Kd.string w A1 l1.length l1) (hc1 : l1.length ≤ c1) (h : laws_eqStringS.f k l0 l1 = some r) :
  Calls Try.prog 9 #[.slice A0 l0.length c0, .slice A1 l1.length c1] w fun e w' => e = .returned (.bool r) ∧ Drawn0 w w' := by
 have HR0 := am_ hr0; have HC0 := am_ hc0; clear hr0 hc0; have HR1 := am_ hr1; have HC1 := am_ hc1; clear hr1 hc1; have H := h; clear h; unfold laws_eqStringS.f at H
 by_cases c3 : (l0.length : Int) = (l1.length : Int)
 ·rw [if_pos c3] at H; have c3b0 := eb_ c3; have c3b1 := en_ c3; have c3b2 : (l0.length == l1.length) = true := by first | simpa using c3 | (simp at c3 ⊢; omega)
  clear c3; have H' := am_ H; clear H; go_enter Try.func9, Try.ntmps9; go_wp2; (repeat (go_quiet (fail); try go_wp2))
  go_loopg [5] k (fun kq v5 w' => ∃ (x5_1 : Int), v5 = .int .i64 x5_1 ∧ Aside0 (laws_eqStringS.l0 kq l0 l1 x5_1 = some r) ∧ Aside0 (kq ≤ k) ∧ Drawn0 w w')
  case atStart => exact ⟨(0), rs_, H', ⟨Nat.le_refl _⟩, by repeat (first | exact Drawn0.refl _ | apply Drawn0.step)⟩
  case round =>
   clear H'; (try clear c3); (try clear c3b0); (try clear c3b1); (try clear c3b2); obtain ⟨x5_1, rfl, HA, HK1, ⟨m1, rfl⟩⟩ := hrel
   cases gk with
   | zero => exact absurd HA.out (by simp [laws_eqStringS.l0])
   | succ k1 =>
    have H := HA.out; clear HA; simp only [laws_eqStringS.l0] at H
    by_cases c4 : x5_1 < (l0.length : Int)
    ·rw [if_pos c4] at H; have c4b0 := decide_eq_true c4; clear c4; replace H := is_ H; obtain ⟨c5, H⟩ := H; have c5b0 := decide_eq_true c5; clear c5; replace H := is_ H; obtain ⟨c6, H⟩ := H; have c6b0 := decide_eq_true c6; clear c6
     by_cases c7 : (rdOf ByteArray.empty l0 x5_1).toList = (rdOf ByteArray.empty l1 x5_1).toList
     ·rw [if_pos c7] at H; have c7b0 := eb_ c7; have c7b1 := en_ c7; clear c7; have H' := am_ H; clear H; have p1001 : 0 ≤ (x5_1 : Int) := od_; have q1001 : x5_1 < (l0.length : Int) := od_; obtain ⟨ad1001, e1001, hx1001_0⟩ := Kd.at_string HR0.out x5_1 p1001 q1001
      cases e1001
      replace p1001 := eq_true p1001; replace q1001 := eq_true q1001; have p1002 : 0 ≤ (x5_1 : Int) := od_; have q1002 : x5_1 < (l1.length : Int) := od_; obtain ⟨ad1002, e1002, hx1002_0⟩ := Kd.at_string HR1.out x5_1 p1002 q1002
      cases e1002
      replace p1002 := eq_true p1002; replace q1002 := eq_true q1002; go_wp2; (repeat (go_quiet (fail); try go_wp2)); go_roundg k1
      case measure => have := HK1.out; omega
      case rel => exact ⟨(wrap64 (x5_1 + 1)), rs_, H', ⟨by have := HK1.out; omega⟩, by repeat (first | exact Drawn0.refl _ | apply Drawn0.step)⟩
     ·rw [if_neg c7] at H; have c7b0 := nb_ c7; have c7b1 := nn_ c7; obtain rfl := si_ H; have p1001 : 0 ≤ (x5_1 : Int) := od_; have q1001 : x5_1 < (l0.length : Int) := od_; obtain ⟨ad1001, e1001, hx1001_0⟩ := Kd.at_string HR0.out x5_1 p1001 q1001
      cases e1001
      replace p1001 := eq_true p1001; replace q1001 := eq_true q1001; have p1002 : 0 ≤ (x5_1 : Int) := od_; have q1002 : x5_1 < (l1.length : Int) := od_; obtain ⟨ad1002, e1002, hx1002_0⟩ := Kd.at_string HR1.out x5_1 p1002 q1002
      cases e1002
      replace p1002 := eq_true p1002; replace q1002 := eq_true q1002; go_wp2; (repeat (go_quiet (fail); try go_wp2)); go_ret; exact ⟨by first | rfl | (simp; done) | (simp [*]; done), by repeat (first | exact Drawn0.refl _ | apply Drawn0.step)⟩
    ·rw [if_neg c4] at H; have c4b0 := decide_eq_false c4; clear c4; obtain rfl := si_ H; go_wp2; (repeat (go_quiet (fail); try go_wp2)); go_ret; exact ⟨by first | rfl | (simp; done) | (simp [*]; done), by repeat (first | exact Drawn0.refl _ | apply Drawn0.step)⟩
 ·rw [if_neg c3] at H; have c3b0 := nb_ c3; have c3b1 := nn_ c3; have c3b2 : (l0.length == l1.length) = false := by first | simpa using c3 | (simp at c3 ⊢; omega)
  obtain rfl := si_ H; go_enter Try.func9, Try.ntmps9; go_wp2; (repeat (go_quiet (fail); try go_wp2)); go_ret; exact ⟨by first | rfl | (simp; done) | (simp [*]; done), by repeat (first | exact Drawn0.refl _ | apply Drawn0.step)⟩

/-! ### laws_markStringS: function 12 -/
def laws_markStringS.l0 : Nat → List ByteArray → Int → Int → Option (Int × List ByteArray)
 | 0, _, _, _ => none
 | k + 1, x0, x1, x5 => if x5 < (x0.length : Int) then ((laws_markText.f k x1).bind fun t1001 => (if 0 ≤ x5 then (laws_markStringS.l0 k (x0.set (x5 : Int).toNat t1001) (wrap64 (x1 + 1)) (wrap64 (x5 + 1))) else (none))) else (some (x1, x0))
def laws_markStringS.f (k : Nat) (l0 : List ByteArray) (a1 : Int) : Option (Int × List ByteArray) := laws_markStringS.l0 k l0 a1 0
theorem laws_markStringS.mono_l : ∀ k, (∀ y0 y1 y2, LeO (laws_markStringS.l0 k y0 y1 y2) (laws_markStringS.l0 (k + 1) y0 y1 y2))
 | 0 => fun _ _ _ r h => by simp [laws_markStringS.l0] at h
 | k + 1 => by
  have ih0 := laws_markStringS.mono_l k
  ·intro y0 y1 y2
   unfold laws_markStringS.l0
   repeat' with_reducible first | apply ih0 | apply laws_markText.mono | apply LeO.refl | apply LeO.none | apply LeO.ite | refine LeO.bind ?_ (fun _ => ?_)
theorem laws_markStringS.mono : ∀ a0 a1 k, LeO (laws_markStringS.f k a0 a1) (laws_markStringS.f (k + 1) a0 a1) := by
 intro a0 a1 k
 have ih0 := laws_markStringS.mono_l k
 unfold laws_markStringS.f
 repeat' with_reducible first | apply ih0 | apply laws_markText.mono | apply LeO.refl | apply LeO.none | apply LeO.ite | refine LeO.bind ?_ (fun _ => ?_)
set_option maxHeartbeats 8000000 in
set_option maxRecDepth 100000 in
theorem laws_markStringS.calls (k : Nat) (P0_ : Nat → Prop) (u9000_ : Value) (l0 : List ByteArray) (a1 : Int) (r1 : Int) (r2 : List ByteArray) (w0 w : World) (hB : Below w0.heap.size w0 w) (ho0 : Kd.R Kd.string 9 w w0.heap.size P0_ u9000_ l0) (h : laws_markStringS.f k l0 a1 = some (r1, r2)) :
  Calls Try.prog 12 #[u9000_, .int .i64 a1] w fun e w' => e = .returned (.int .i64 r1) ∧ Kd.R Kd.string 9 w' w0.heap.size (fun k_ => (P0_ k_ ∨ w.heap.size ≤ k_)) u9000_ r2 ∧ Below w0.heap.size w0 w' ∧ Kept w w' (fun k_ => P0_ k_) := by
 have HO0 := am_ (show Kd.R Kd.string 9 w w0.heap.size (fun k_ => (P0_ k_ ∨ w.heap.size ≤ k_)) u9000_ l0 from Kd.R_mono ho0 (fun k_ hk => (.inl hk))); have HK := am_ (Kept.refl w (fun k_ => P0_ k_)); have HW0 := am_ hB.size; have HB := am_ hB; clear hB; have H : (laws_markStringS.l0 k l0 a1 0) = some (r1, r2) := h; clear h; have H' := am_ H; clear H; go_enter Try.func12, Try.ntmps12; go_wp2
 go_loopg [1, 5] k (fun kq v1 v5 w' => ∃ (x0_1 : List ByteArray) (x1_1 : Int) (x5_1 : Int), v1 = .int .i64 x1_1 ∧ v5 = .int .i64 x5_1 ∧ Aside0 (laws_markStringS.l0 kq x0_1 x1_1 x5_1 = some (r1, r2)) ∧ Aside0 (kq ≤ k) ∧ Aside0 (Kd.R Kd.string 9 w' w0.heap.size (fun k_ => (P0_ k_ ∨ w.heap.size ≤ k_)) u9000_ x0_1) ∧ Aside0 (Kept w w' (fun k_ => P0_ k_)) ∧ Aside0 (Below w0.heap.size w0 w'))
 case atStart => exact ⟨(l0), (a1), (0), rs_, rs_, H', ⟨Nat.le_refl _⟩, ⟨ro_ HO0⟩, ⟨by repeat (first | (with_reducible first | exact HK.out | apply Kept.alloc | apply Kept.drewN | apply Kept.drew) | exact HK.out)⟩, ⟨bl_⟩⟩
 case round =>
  clear H'; obtain ⟨x0_1, x1_1, x5_1, rfl, rfl, HA, HK1, HO_0, HK, HB⟩ := hrel
  cases gk with
  | zero => exact absurd HA.out (by simp [laws_markStringS.l0])
  | succ k1 =>
   have H := HA.out; clear HA; simp only [laws_markStringS.l0] at H
   by_cases c3 : x5_1 < (x0_1.length : Int)
   ·rw [if_pos c3] at H; have c3b0 := decide_eq_true c3; clear c3; replace H := Option.bind_eq_some_iff.mp H; obtain ⟨t1001, A40, H⟩ := H; replace H : (if 0 ≤ x5_1 then (laws_markStringS.l0 k1 (x0_1.set (x5_1 : Int).toNat t1001) (wrap64 (x1_1 + 1)) (wrap64 (x5_1 + 1))) else (none)) = some (r1, r2) := H; have A4 := am_ A40; clear A40; replace H := is_ H; obtain ⟨c5, H⟩ := H; have c5b0 := decide_eq_true c5; clear c5; obtain ⟨y1002, hy1002⟩ : ∃ y_ : List ByteArray, y_ = (x0_1.set (x5_1 : Int).toNat t1001) := ⟨_, rfl⟩; replace H : (laws_markStringS.l0 k1 y1002 (wrap64 (x1_1 + 1)) (wrap64 (x5_1 + 1))) = some (r1, r2) := by first | (rw [hy1002]; with_reducible exact H) | (have H2_ := (Option.bind_some _ _).symm.trans H; rw [hy1002]; with_reducible exact H2_) | (have H2_ := (Option.bind_some _ _).symm.trans H; with_reducible exact H2_) | with_reducible exact H | (rw [hy1002]; exact H) | exact H
    have Ny1002 := am_ hy1002; clear hy1002; have H' := am_ H; clear H; obtain ⟨Ao7, co7, eo7⟩ := Kd.R_slice HO_0.out; subst eo7; go_wp2_with (first | ((with_reducible refine gate_callee (f := 29) rfl ?_); refine gl_ 15 Try.func29 #[.int .i64 x1_1] ?_; (with_reducible refine (laws_markText.calls k1 x1_1 t1001 _ A4.out).mono ?_); rintro e w8 ⟨rfl, hb⟩; refine ⟨_, rfl, ?_⟩; replace HO_0 := am_ (Kd.R_below (ro_ HO_0) hb); replace HK := am_ (Kept.below (S := (fun k_ => P0_ k_)) (by repeat (first | (with_reducible first | exact HK.out | apply Kept.alloc | apply Kept.drewN | apply Kept.drew) | exact HK.out)) hb); replace HB := am_ (below_step bl_ hb); (try clear hb); have p6 : 0 ≤ (x5_1 : Int) := od_; have q6 : (x5_1 : Int) < ((x0_1.length : Int) : Int) := od_; obtain ⟨go6, co6, eo6, gb6, gl6, cl6, HG6⟩ := Kd.R_form HO_0.out (by omega); (first | cases eo6 | (injection eo6 with ea_ en_ ec_; (first | subst ea_ | (injection ea_ with ea_; subst ea_)); subst ec_; clear en_)); have GB6 := am_ gb6; have GG6 := am_ HG6; clear gb6 gl6 HG6; have HMgo6 := am_ (show (P0_ go6 ∨ w.heap.size ≤ go6) from (HO_0.out.1 _ rfl)); obtain ⟨hx6_0, hf6_0⟩ := Kd.R_celln (⟨#[]⟩ : ByteArray) HO_0.out (x5_1 : Int) p6 q6; replace p6 := eq_true p6; replace q6 := eq_true q6; obtain ⟨hy9_, hz9_⟩ := Kd.R_celln (⟨#[]⟩ : ByteArray) HO_0.out (x5_1 : Int) (od_) (od_); have HP9 := Kd.R_putg HO_0.out (x5_1 : Int) t1001) | ((with_reducible refine gate_store (t := 9) (p := 16) rfl ?_); refine store_event (t := 9) (p := 16) (v := ?vo_w10) (w1 := (w8.setCell ⟨go6, (x5_1 : Int).toNat, none⟩ (.string t1001))) ?hg ?ho ?hn ?hr ?_; (case ho => rfl); (case hg => rfl); (case hn => rfl); (case hr => first | (go_simp; done) | (go_simp; rfl)); intro w10 hw; have hg : w8.grownBy w10 (some go6) := (by rw [hw]; exact HP9.2); have hp_ : Kd.R Kd.string 9 w10 w0.heap.size (fun k_ => (P0_ k_ ∨ w.heap.size ≤ k_)) (.slice (some ⟨go6, 0, none⟩) x0_1.length co7) y1002 := (by rw [hw, Ny1002.out]; exact HP9.1); clear HP9; replace HK := am_ (Kept.of_grown (S := (fun k_ => P0_ k_)) hg (by repeat (first | (with_reducible first | exact HK.out | apply Kept.alloc | apply Kept.drewN | apply Kept.drew) | exact HK.out)) (fun k_ e_ => (HO_0.out.1 k_ e_))); replace HO_0 := am_ (hp_); replace HB := am_ ((by rw [hw]; exact below_set (HB.out) GB6.out : Below w0.heap.size w0 w10)); clear hg hw hp_)); go_roundg k1
    case measure => have := HK1.out; omega
    case rel => exact ⟨(y1002), (wrap64 (x1_1 + 1)), (wrap64 (x5_1 + 1)), rs_, rs_, H', ⟨by have := HK1.out; omega⟩, ⟨ro_ HO_0⟩, ⟨by repeat (first | (with_reducible first | exact HK.out | apply Kept.alloc | apply Kept.drewN | apply Kept.drew) | exact HK.out)⟩, ⟨bl_⟩⟩
   ·rw [if_neg c3] at H; have c3b0 := decide_eq_false c3; clear c3; simp only [Option.some.injEq, Prod.mk.injEq] at H; obtain ⟨rfl, rfl⟩ := H; obtain ⟨Ao11, co11, eo11⟩ := Kd.R_slice HO_0.out; subst eo11; go_wp2; go_ret; exact ⟨rf_, by (with_reducible repeat (first | apply Kd.R_alloc | apply Kd.R_drewN | apply Kd.R_drew)); exact HO_0.out, bl_, by repeat (first | (with_reducible first | exact HK.out | apply Kept.alloc | apply Kept.drewN | apply Kept.drew) | exact HK.out)⟩

/-! ### laws_heldStringS: function 13 -/
def laws_heldStringS.l0 : Nat → List ByteArray → Int → Int → Option (Int)
 | 0, _, _, _ => none
 | k + 1, x0, x1, x5 => if x5 < (x0.length : Int) then (if 0 ≤ x5 then ((laws_markText.f k x1).bind fun t1002 => (if (rdOf ByteArray.empty x0 x5).toList = t1002.toList then (laws_heldStringS.l0 k x0 (wrap64 (x1 + 1)) (wrap64 (x5 + 1))) else (some (-1)))) else (none)) else (some x1)
def laws_heldStringS.f (k : Nat) (l0 : List ByteArray) (a1 : Int) : Option (Int) := laws_heldStringS.l0 k l0 a1 0
theorem laws_heldStringS.mono_l : ∀ k, (∀ y0 y1 y2, LeO (laws_heldStringS.l0 k y0 y1 y2) (laws_heldStringS.l0 (k + 1) y0 y1 y2))
 | 0 => fun _ _ _ r h => by simp [laws_heldStringS.l0] at h
 | k + 1 => by
  have ih0 := laws_heldStringS.mono_l k
  ·intro y0 y1 y2
   unfold laws_heldStringS.l0
   repeat' with_reducible first | apply ih0 | apply laws_markText.mono | apply LeO.refl | apply LeO.none | apply LeO.ite | refine LeO.bind ?_ (fun _ => ?_)
theorem laws_heldStringS.mono : ∀ a0 a1 k, LeO (laws_heldStringS.f k a0 a1) (laws_heldStringS.f (k + 1) a0 a1) := by
 intro a0 a1 k
 have ih0 := laws_heldStringS.mono_l k
 unfold laws_heldStringS.f
 repeat' with_reducible first | apply ih0 | apply laws_markText.mono | apply LeO.refl | apply LeO.none | apply LeO.ite | refine LeO.bind ?_ (fun _ => ?_)
set_option maxHeartbeats 8000000 in
set_option maxRecDepth 100000 in
theorem laws_heldStringS.calls (k : Nat) (A0 : Option Addr) (c0 : Nat) (l0 : List ByteArray) (a1 : Int) (r : Int) (w : World) (hr0 : Kd.C Kd.string w A0 l0.length l0) (hc0 : l0.length ≤ c0) (h : laws_heldStringS.f k l0 a1 = some r) :
  Calls Try.prog 13 #[.slice A0 l0.length c0, .int .i64 a1] w fun e w' => e = .returned (.int .i64 r) ∧ Below w.heap.size w w' := by
 have HR0 := am_ hr0; have HC0 := am_ hc0; clear hr0 hc0; have HB := am_ (Below.refl w.heap.size w); have H := h; clear h; unfold laws_heldStringS.f at H; have H' := am_ H; clear H; go_enter Try.func13, Try.ntmps13; go_wp2
 go_loopg [1, 5] k (fun kq v1 v5 w' => ∃ (x1_1 : Int) (x5_1 : Int), v1 = .int .i64 x1_1 ∧ v5 = .int .i64 x5_1 ∧ Aside0 (laws_heldStringS.l0 kq l0 x1_1 x5_1 = some r) ∧ Aside0 (kq ≤ k) ∧ Aside0 (Below w.heap.size w w'))
 case atStart => exact ⟨(a1), (0), rs_, rs_, H', ⟨Nat.le_refl _⟩, ⟨bl_⟩⟩
 case round =>
  clear H'; obtain ⟨x1_1, x5_1, rfl, rfl, HA, HK1, HB⟩ := hrel
  cases gk with
  | zero => exact absurd HA.out (by simp [laws_heldStringS.l0])
  | succ k1 =>
   have H := HA.out; clear HA; simp only [laws_heldStringS.l0] at H
   by_cases c3 : x5_1 < (l0.length : Int)
   ·rw [if_pos c3] at H; have c3b0 := decide_eq_true c3; clear c3; replace H := is_ H; obtain ⟨c4, H⟩ := H; have c4b0 := decide_eq_true c4; clear c4; replace H := bs_ H; obtain ⟨t1002, A5, H⟩ := H
    by_cases c6 : (rdOf ByteArray.empty l0 x5_1).toList = t1002.toList
    ·rw [if_pos c6] at H; have c6b0 := eb_ c6; have c6b1 := en_ c6; clear c6; have H' := am_ H; clear H; (try go_wp2); have n0_ := am_ (below_drew1 HB.out); clear HB; have HB := n0_; clear n0_; have p1001 : 0 ≤ (x5_1 : Int) := od_; have q1001 : x5_1 < (l0.length : Int) := od_; obtain ⟨ad1001, e1001, hx1001_0⟩ := Kd.at_string HR0.out x5_1 p1001 q1001; have hw1001_0 := hx1001_0
     cases e1001
     replace hx1001_0 := kp_ HB hx1001_0; replace p1001 := eq_true p1001; replace q1001 := eq_true q1001; refine start_ (n := 7) (S := fun w' => w'.cell? (ad1001.add (x5_1).toNat) = some (.string (rdOf ByteArray.empty l0 x5_1))) (ds := []) (bz 7 0) (by kernel_rfl) rfl rfl ((kp_ HB hw1001_0)) (fun hHeld => ?_); generalize wr.drew = w7 at HB hx1001_0 hHeld ⊢; refine pure_ (i := 0) (N := some 12) (v := ?_) (a' := ?_) (bz 7 1) rfl rfl (by kernel_rfl) (fun _ _ _ h => h) (Or.inl ⟨by rfl, ?_⟩) ?_ ?_; rotate_left
     ·intro w'; go_simp; (with_reducible rfl)
     rotate_left
     ·simp only [Act.put, List.setIfInBounds_toArray, List.set_cons_zero, List.set_cons_succ, i64_w, i32_w]; rfl
     refine pure_ (i := 1) (N := some 13) (v := ?_) (a' := ?_) (bz 7 3) rfl rfl (by kernel_rfl) (fun _ _ _ h => h) (Or.inl ⟨by rfl, ?_⟩) ?_ ?_; rotate_left
     ·intro w'; go_simp; (with_reducible rfl)
     rotate_left
     ·simp only [Act.put, List.setIfInBounds_toArray, List.set_cons_zero, List.set_cons_succ, i64_w, i32_w]; rfl
     refine pure_ (i := 2) (N := some 14) (v := ?_) (a' := ?_) (bz 7 7) rfl rfl (by kernel_rfl) (fun _ _ _ h => h) (Or.inl ⟨by rfl, ?_⟩) ?_ ?_; rotate_left
     ·intro w'; go_simp; (with_reducible rfl)
     rotate_left
     ·simp only [Act.put, List.setIfInBounds_toArray, List.set_cons_zero, List.set_cons_succ, i64_w, i32_w]; rfl
     refine pure_ (i := 4) (N := some 16) (v := ?_) (a' := ?_) (bz 7 23) rfl rfl (by kernel_rfl) (fun _ _ _ h => h) (Or.inl ⟨by rfl, ?_⟩) ?_ ?_; rotate_left
     ·intro w'; go_simp; (with_reducible rfl)
     rotate_left
     ·simp only [Act.put, List.setIfInBounds_toArray, List.set_cons_zero, List.set_cons_succ, i64_w, i32_w]; rfl
     refine take_ (i := 3) (N := some 15) (v := ?_) (a' := ?_) (bz 7 31) rfl rfl (by kernel_rfl) (fun _ _ _ h => h) (Or.inl ⟨by rfl, ?_⟩) hHeld ?_ ?_; rotate_left
     ·intro w' s0; go_simp; (with_reducible rfl)
     rotate_left
     ·simp only [Act.put, List.setIfInBounds_toArray, List.set_cons_zero, List.set_cons_succ, i64_w, i32_w]; rfl
     refine one_ (i := 5) (N := some 17) (bz 7 63) rfl rfl (by kernel_rfl) (by decide) (fun K hK => ?_); refine goes_ Try.func29 (by kernel_rfl) rfl #[.int .i64 x1_1] (by rfl) rfl rfl ag_ ?_; (with_reducible refine (laws_markText.calls k1 x1_1 t1002 _ A5.out).mono ?_); rintro e w8 ⟨rfl, hb⟩; refine ⟨_, rfl, ?_⟩; have n0_ := am_ (below_step bl_ hb); clear HB; have HB := n0_; clear n0_; (try clear hb); (try clear hb2); (try clear hk); (try clear hi); refine hK.out _ _ ((kp_ HB hw1001_0)) (fun hHeld => ?_); clear hK K; refine norm_ (a' := ?_) ?_ ?_; rotate_left
     ·show Act.put _ (some 17) _ = _; simp only [Act.put, List.setIfInBounds_toArray, List.set_cons_zero, List.set_cons_succ, i64_w, i32_w]; rfl
     refine pure_ (i := 6) (N := some 18) (v := ?_) (a' := ?_) (bz 7 127) rfl rfl (by kernel_rfl) (fun _ _ _ h => h) (Or.inl ⟨by rfl, ?_⟩) ?_ ?_; rotate_left
     ·intro w'; go_simp; (with_reducible rfl)
     rotate_left
     ·simp only [Act.put, List.setIfInBounds_toArray, List.set_cons_zero, List.set_cons_succ, i64_w, i32_w]; rfl
     refine done_ (by kernel_rfl) ?_; (try go_wp2); go_roundg k1
     case measure => have := HK1.out; omega
     case rel => exact ⟨(wrap64 (x1_1 + 1)), (wrap64 (x5_1 + 1)), rs_, rs_, H', ⟨by have := HK1.out; omega⟩, ⟨bl_⟩⟩
    ·rw [if_neg c6] at H; have c6b0 := nb_ c6; have c6b1 := nn_ c6; obtain rfl := si_ H; (try go_wp2); have n0_ := am_ (below_drew1 HB.out); clear HB; have HB := n0_; clear n0_; have p1001 : 0 ≤ (x5_1 : Int) := od_; have q1001 : x5_1 < (l0.length : Int) := od_; obtain ⟨ad1001, e1001, hx1001_0⟩ := Kd.at_string HR0.out x5_1 p1001 q1001; have hw1001_0 := hx1001_0
     cases e1001
     replace hx1001_0 := kp_ HB hx1001_0; replace p1001 := eq_true p1001; replace q1001 := eq_true q1001; refine start_ (n := 7) (S := fun w' => w'.cell? (ad1001.add (x5_1).toNat) = some (.string (rdOf ByteArray.empty l0 x5_1))) (ds := []) (bz 7 0) (by kernel_rfl) rfl rfl ((kp_ HB hw1001_0)) (fun hHeld => ?_); generalize wr.drew = w9 at HB hx1001_0 hHeld ⊢; refine pure_ (i := 0) (N := some 12) (v := ?_) (a' := ?_) (bz 7 1) rfl rfl (by kernel_rfl) (fun _ _ _ h => h) (Or.inl ⟨by rfl, ?_⟩) ?_ ?_; rotate_left
     ·intro w'; go_simp; (with_reducible rfl)
     rotate_left
     ·simp only [Act.put, List.setIfInBounds_toArray, List.set_cons_zero, List.set_cons_succ, i64_w, i32_w]; rfl
     refine pure_ (i := 1) (N := some 13) (v := ?_) (a' := ?_) (bz 7 3) rfl rfl (by kernel_rfl) (fun _ _ _ h => h) (Or.inl ⟨by rfl, ?_⟩) ?_ ?_; rotate_left
     ·intro w'; go_simp; (with_reducible rfl)
     rotate_left
     ·simp only [Act.put, List.setIfInBounds_toArray, List.set_cons_zero, List.set_cons_succ, i64_w, i32_w]; rfl
     refine pure_ (i := 2) (N := some 14) (v := ?_) (a' := ?_) (bz 7 7) rfl rfl (by kernel_rfl) (fun _ _ _ h => h) (Or.inl ⟨by rfl, ?_⟩) ?_ ?_; rotate_left
     ·intro w'; go_simp; (with_reducible rfl)
     rotate_left
     ·simp only [Act.put, List.setIfInBounds_toArray, List.set_cons_zero, List.set_cons_succ, i64_w, i32_w]; rfl
     refine pure_ (i := 4) (N := some 16) (v := ?_) (a' := ?_) (bz 7 23) rfl rfl (by kernel_rfl) (fun _ _ _ h => h) (Or.inl ⟨by rfl, ?_⟩) ?_ ?_; rotate_left
     ·intro w'; go_simp; (with_reducible rfl)
     rotate_left
     ·simp only [Act.put, List.setIfInBounds_toArray, List.set_cons_zero, List.set_cons_succ, i64_w, i32_w]; rfl
     refine take_ (i := 3) (N := some 15) (v := ?_) (a' := ?_) (bz 7 31) rfl rfl (by kernel_rfl) (fun _ _ _ h => h) (Or.inl ⟨by rfl, ?_⟩) hHeld ?_ ?_; rotate_left
     ·intro w' s0; go_simp; (with_reducible rfl)
     rotate_left
     ·simp only [Act.put, List.setIfInBounds_toArray, List.set_cons_zero, List.set_cons_succ, i64_w, i32_w]; rfl
     refine one_ (i := 5) (N := some 17) (bz 7 63) rfl rfl (by kernel_rfl) (by decide) (fun K hK => ?_); refine goes_ Try.func29 (by kernel_rfl) rfl #[.int .i64 x1_1] (by rfl) rfl rfl ag_ ?_; (with_reducible refine (laws_markText.calls k1 x1_1 t1002 _ A5.out).mono ?_); rintro e w10 ⟨rfl, hb⟩; refine ⟨_, rfl, ?_⟩; have n0_ := am_ (below_step bl_ hb); clear HB; have HB := n0_; clear n0_; (try clear hb); (try clear hb2); (try clear hk); (try clear hi); refine hK.out _ _ ((kp_ HB hw1001_0)) (fun hHeld => ?_); clear hK K; refine norm_ (a' := ?_) ?_ ?_; rotate_left
     ·show Act.put _ (some 17) _ = _; simp only [Act.put, List.setIfInBounds_toArray, List.set_cons_zero, List.set_cons_succ, i64_w, i32_w]; rfl
     refine pure_ (i := 6) (N := some 18) (v := ?_) (a' := ?_) (bz 7 127) rfl rfl (by kernel_rfl) (fun _ _ _ h => h) (Or.inl ⟨by rfl, ?_⟩) ?_ ?_; rotate_left
     ·intro w'; go_simp; (with_reducible rfl)
     rotate_left
     ·simp only [Act.put, List.setIfInBounds_toArray, List.set_cons_zero, List.set_cons_succ, i64_w, i32_w]; rfl
     refine done_ (by kernel_rfl) ?_; (try go_wp2); go_ret; exact ⟨rf_, bl_⟩
   ·rw [if_neg c3] at H; have c3b0 := decide_eq_false c3; clear c3; obtain rfl := si_ H; go_wp2; go_ret; exact ⟨rf_, bl_⟩

/-! ### laws_FnExactValuesOf: function 3 -/
def laws_FnExactValuesOf.f (k : Nat) (l0 : List (S39)) (a1 : ByteArray) : Option Bool := (if (a1.size : Int) > 1048576 then some true else ((laws_szSeriesS.f k l0 1048576).bind fun r0_0 => (if r0_0 < 0 then some true else ((laws_toSeriesS.f k l0).bind fun r1_0 => ((spec_ValuesOf.f k r1_0 a1).bind fun r2_0 => ((laws_toSeriesS.f k l0).bind fun r3_0 => ((impl_ValuesOf.f k r3_0 a1).bind fun r4_0 => ((laws_eqStringS.f k r4_0 r2_0).bind fun r5_0 => (if r5_0 = true then ((laws_toSeriesS.f k l0).bind fun r6_0 => ((laws_eqSeriesS.f k r3_0 r6_0).bind fun r7_0 => (if r7_0 = true then ((laws_markSeriesS.f k r3_0 1).bind fun bm8 => (if bm8.1 < 0 then none else ((laws_eqStringS.f k r4_0 r2_0).bind fun r9_0 => (if r9_0 = true then ((laws_markStringS.f k r4_0 1).bind fun bm10 => ((laws_heldStringS.f k bm10.2 1).bind fun r11_0 => (if r11_0 < 0 then none else (if r11_0 = bm10.1 then ((laws_toSeriesS.f k l0).bind fun r12_0 => ((impl_ValuesOf.f k r12_0 a1).bind fun r13_0 => ((laws_eqStringS.f k r13_0 r2_0).bind fun r14_0 => (if r14_0 = true then ((laws_heldStringS.f k bm10.2 1).bind fun r15_0 => (if r15_0 < 0 then none else (if r15_0 = bm10.1 then some true else none))) else none)))) else none)))) else none)))) else none))) else none)))))))))
theorem laws_FnExactValuesOf.mono : ∀ a0 a1 k, LeO (laws_FnExactValuesOf.f k a0 a1) (laws_FnExactValuesOf.f (k + 1) a0 a1) := by
 intro a0 a1 k
 unfold laws_FnExactValuesOf.f
 repeat' with_reducible first | apply laws_szSeriesS.mono | apply laws_toSeriesS.mono | apply spec_ValuesOf.mono | apply impl_ValuesOf.mono | apply laws_eqStringS.mono | apply laws_eqSeriesS.mono | apply laws_markSeriesS.mono | apply laws_markStringS.mono | apply laws_heldStringS.mono | apply LeO.refl | apply LeO.none | apply LeO.ite | refine LeO.bind ?_ (fun _ => ?_)
set_option maxHeartbeats 8000000 in
set_option maxRecDepth 100000 in
theorem laws_FnExactValuesOf.calls (k : Nat) (A0 : Option Addr) (c0 : Nat) (l0 : List (S39)) (a1 : ByteArray) (r : Bool) (w : World) (hr0 : Kd.C k39 w A0 l0.length l0) (hc0 : l0.length ≤ c0) (h : laws_FnExactValuesOf.f k l0 a1 = some r) :
  Calls Try.prog 3 #[.slice A0 l0.length c0, .string a1] w fun e w' => e = .returned (.bool r) ∧ Below w.heap.size w w' := by
 have HR0 := am_ hr0; have HC0 := am_ hc0; clear hr0 hc0
 have HB := am_ (Below.refl w.heap.size w); have TOP := am_ (Nat.le_refl w.heap.size); have ST0 := trivial; have H := h; clear h; unfold laws_FnExactValuesOf.f at H
 by_cases ce0 : (a1.size : Int) > 1048576
 ·rw [if_pos ce0] at H; have ce00 := dg_ ce0; clear ce0; obtain rfl := si_ H; go_enter Try.func3, Try.ntmps3; go_wp2_with (fail); go_ret; exact ⟨rf_, HB.out⟩
 rw [if_neg ce0] at H; have ce00 := df_ ce0; clear ce0
 replace H := bs_ H; obtain ⟨r0_0, A0, H⟩ := H
 by_cases ce1 : r0_0 < 0
 ·rw [if_pos ce1] at H; have ce10 := decide_eq_true ce1; clear ce1; obtain rfl := si_ H; go_enter Try.func3, Try.ntmps3; go_wp2_with (first | (go_at_call 5; clear ST0; (with_reducible refine (laws_szSeriesS.calls k _ _ l0 1048576 r0_0 _ ?s0 ?s1 A0.out).mono ?_); (case s0 => exact cc_ (Kd.C_below HR0.out HB.out)); (case s1 => exact HC0.out); rintro e wl1 ⟨rfl, hb⟩; replace TOP := am_ (Nat.le_trans TOP.out hb.size); replace HB := am_ (below_step HB.out hb); clear hb; have ST1 := trivial)); go_ret; exact ⟨rf_, HB.out⟩
 rw [if_neg ce1] at H; have ce10 := decide_eq_false ce1; clear ce1
 replace H := bs_ H; obtain ⟨r1_0, A1, H⟩ := H; replace H := bs_ H; obtain ⟨r2_0, A2, H⟩ := H; replace H := bs_ H; obtain ⟨r3_0, A3, H⟩ := H; replace H := bs_ H; obtain ⟨r4_0, A4, H⟩ := H; replace H := bs_ H; obtain ⟨r5_0, A5, H⟩ := H; replace H := is_ H; obtain ⟨c_, H⟩ := H; subst c_; replace H := bs_ H; obtain ⟨r6_0, A6, H⟩ := H; replace H := bs_ H; obtain ⟨r7_0, A7, H⟩ := H; replace H := is_ H; obtain ⟨c_, H⟩ := H; subst c_; replace H := bs_ H; obtain ⟨⟨m8, y8_0⟩, A8, H⟩ := H; (try dsimp only at H); replace H := ig_ H; obtain ⟨c_, H⟩ := H; have cn9 := decide_eq_false c_; clear c_; replace H := bs_ H; obtain ⟨r9_0, A9, H⟩ := H; replace H := is_ H; obtain ⟨c_, H⟩ := H; subst c_; replace H := bs_ H; obtain ⟨⟨m10, y10_0⟩, A10, H⟩ := H; (try dsimp only at H); replace H := bs_ H; obtain ⟨r11_0, A11, H⟩ := H; replace H := ig_ H; obtain ⟨c_, H⟩ := H; have cn12 := decide_eq_false c_; clear c_; replace H := is_ H; obtain ⟨c_, H⟩ := H; replace c_ := c_.symm; subst c_; replace H := bs_ H; obtain ⟨r12_0, A12, H⟩ := H; replace H := bs_ H; obtain ⟨r13_0, A13, H⟩ := H; replace H := bs_ H; obtain ⟨r14_0, A14, H⟩ := H; replace H := is_ H; obtain ⟨c_, H⟩ := H; subst c_; replace H := bs_ H; obtain ⟨r15_0, A15, H⟩ := H; replace H := ig_ H; obtain ⟨c_, H⟩ := H; have cn16 := decide_eq_false c_; clear c_; replace H := is_ H; obtain ⟨c_, H⟩ := H; replace c_ := c_.symm; subst c_
 obtain rfl := si_ H
 go_enter Try.func3, Try.ntmps3
 go_wp2_with (first | (go_at_call 5; clear ST0; (with_reducible refine (laws_szSeriesS.calls k _ _ l0 1048576 r0_0 _ ?s0 ?s1 A0.out).mono ?_); (case s0 => exact cc_ (Kd.C_below HR0.out HB.out)); (case s1 => exact HC0.out); rintro e wl1 ⟨rfl, hb⟩; replace TOP := am_ (Nat.le_trans TOP.out hb.size); replace HB := am_ (below_step HB.out hb); clear hb; have ST1 := trivial) | (go_at_call 7; clear ST1; (with_reducible refine (laws_toSeriesS.calls k _ _ l0 r1_0 _ ?s0 ?s1 A1.out).mono ?_); (case s0 => exact cc_ (Kd.C_below HR0.out HB.out)); (case s1 => exact HC0.out); rintro e wl2 ⟨v1_0, rfl, ho0, hb⟩; obtain ⟨lo1_0, hi1_0, g1_1_0, g2_1_0, g3_1_0, el_, eh_, HV1_0⟩ := rgS_ ho0 hb HB.out TOP.out; clear el_ eh_ ho0; have n9_ := am_ g2_1_0; clear g2_1_0; replace TOP := am_ (Nat.le_trans TOP.out hb.size); replace HB := am_ (below_step HB.out hb); replace TOP := n9_; clear n9_; obtain ⟨Av1_0, cv1_0, ev_⟩ := Kd.S_slice HV1_0.out; subst ev_; clear hb; have ST2 := trivial) | (go_at_call 6; clear ST2; (with_reducible refine (spec_ValuesOf.calls k _ _ r1_0 a1 r2_0 _ ?s0 ?s1 A2.out).mono ?_); (case s0 => exact (Kd.S_reads' HV1_0.out).2.2); (case s1 => exact (Kd.S_reads' HV1_0.out).2.1); rintro e wl3 ⟨v2_0, rfl, ho0, hb⟩; obtain ⟨lo2_0, hi2_0, g1_2_0, g2_2_0, g3_2_0, el_, eh_, HV2_0⟩ := rgR_ ho0 hb HB.out TOP.out; clear el_ eh_ ho0; have n9_ := am_ g2_2_0; clear g2_2_0; replace HV1_0 := am_ (Kd.S_below HV1_0.out hb); replace TOP := am_ (Nat.le_trans TOP.out hb.size); replace HB := am_ (below_step HB.out hb); replace TOP := n9_; clear n9_; obtain ⟨Av2_0, cv2_0, ev_⟩ := Kd.R_slice HV2_0.out; subst ev_; clear hb; have ST3 := trivial) | (go_at_call 7; clear ST3; (with_reducible refine (laws_toSeriesS.calls k _ _ l0 r3_0 _ ?s0 ?s1 A3.out).mono ?_); (case s0 => exact cc_ (Kd.C_below HR0.out HB.out)); (case s1 => exact HC0.out); rintro e wl4 ⟨v3_0, rfl, ho0, hb⟩; obtain ⟨lo3_0, hi3_0, g1_3_0, g2_3_0, g3_3_0, el_, eh_, HV3_0⟩ := rgS_ ho0 hb HB.out TOP.out; clear el_ eh_ ho0; have n9_ := am_ g2_3_0; clear g2_3_0; replace HV1_0 := am_ (Kd.S_below HV1_0.out hb); replace HV2_0 := am_ (Kd.R_below HV2_0.out hb); replace TOP := am_ (Nat.le_trans TOP.out hb.size); replace HB := am_ (below_step HB.out hb); replace TOP := n9_; clear n9_; obtain ⟨Av3_0, cv3_0, ev_⟩ := Kd.S_slice HV3_0.out; subst ev_; clear hb; have ST4 := trivial) | (go_at_call 8; clear ST4; (with_reducible refine (impl_ValuesOf.calls k _ _ r3_0 a1 r4_0 _ ?s0 ?s1 A4.out).mono ?_); (case s0 => exact (Kd.S_reads' HV3_0.out).2.2); (case s1 => exact (Kd.S_reads' HV3_0.out).2.1); rintro e wl5 ⟨v4_0, rfl, ho0, hb⟩; obtain ⟨lo4_0, hi4_0, g1_4_0, g2_4_0, g3_4_0, el_, eh_, HV4_0⟩ := rgR_ ho0 hb HB.out TOP.out; clear el_ eh_ ho0; have n9_ := am_ g2_4_0; clear g2_4_0; replace HV1_0 := am_ (Kd.S_below HV1_0.out hb); replace HV2_0 := am_ (Kd.R_below HV2_0.out hb); replace HV3_0 := am_ (Kd.S_below HV3_0.out hb); replace TOP := am_ (Nat.le_trans TOP.out hb.size); replace HB := am_ (below_step HB.out hb); replace TOP := n9_; clear n9_; obtain ⟨Av4_0, cv4_0, ev_⟩ := Kd.R_slice HV4_0.out; subst ev_; clear hb; have ST5 := trivial) | (go_at_call 9; clear ST5; (with_reducible refine (laws_eqStringS.calls k _ _ r4_0 _ _ r2_0 true _ ?s0 ?s1 ?s2 ?s3 A5.out).mono ?_); (case s0 => exact (Kd.R_reads' HV4_0.out).2.2); (case s1 => exact (Kd.R_reads' HV4_0.out).2.1); (case s2 => exact (Kd.R_reads' HV2_0.out).2.2); (case s3 => exact (Kd.R_reads' HV2_0.out).2.1); rintro e wl6 ⟨rfl, hd_⟩; have hb := drawn_below hd_; clear hd_; replace HV1_0 := am_ (Kd.S_below HV1_0.out hb); replace HV2_0 := am_ (Kd.R_below HV2_0.out hb); replace HV3_0 := am_ (Kd.S_below HV3_0.out hb); replace HV4_0 := am_ (Kd.R_below HV4_0.out hb); replace TOP := am_ (Nat.le_trans TOP.out hb.size); replace HB := am_ (below_step HB.out hb); clear hb; have ST6 := trivial) | (go_at_call 7; clear ST6; (with_reducible refine (laws_toSeriesS.calls k _ _ l0 r6_0 _ ?s0 ?s1 A6.out).mono ?_); (case s0 => exact cc_ (Kd.C_below HR0.out HB.out)); (case s1 => exact HC0.out); rintro e wl7 ⟨v6_0, rfl, ho0, hb⟩; obtain ⟨lo6_0, hi6_0, g1_6_0, g2_6_0, g3_6_0, el_, eh_, HV6_0⟩ := rgS_ ho0 hb HB.out TOP.out; clear el_ eh_ ho0; have n9_ := am_ g2_6_0; clear g2_6_0; replace HV1_0 := am_ (Kd.S_below HV1_0.out hb); replace HV2_0 := am_ (Kd.R_below HV2_0.out hb); replace HV3_0 := am_ (Kd.S_below HV3_0.out hb); replace HV4_0 := am_ (Kd.R_below HV4_0.out hb); replace TOP := am_ (Nat.le_trans TOP.out hb.size); replace HB := am_ (below_step HB.out hb); replace TOP := n9_; clear n9_; obtain ⟨Av6_0, cv6_0, ev_⟩ := Kd.S_slice HV6_0.out; subst ev_; clear hb; have ST7 := trivial) | (go_at_call 10; clear ST7; (with_reducible refine (laws_eqSeriesS.calls k _ _ r3_0 _ _ r6_0 true _ ?s0 ?s1 ?s2 ?s3 A7.out).mono ?_); (case s0 => exact (Kd.S_reads' HV3_0.out).2.2); (case s1 => exact (Kd.S_reads' HV3_0.out).2.1); (case s2 => exact (Kd.S_reads' HV6_0.out).2.2); (case s3 => exact (Kd.S_reads' HV6_0.out).2.1); rintro e wl8 ⟨rfl, hb⟩; replace HV1_0 := am_ (Kd.S_below HV1_0.out hb); replace HV2_0 := am_ (Kd.R_below HV2_0.out hb); replace HV3_0 := am_ (Kd.S_below HV3_0.out hb); replace HV4_0 := am_ (Kd.R_below HV4_0.out hb); replace HV6_0 := am_ (Kd.S_below HV6_0.out hb); replace TOP := am_ (Nat.le_trans TOP.out hb.size); replace HB := am_ (below_step HB.out hb); clear hb; have ST8 := trivial) | (go_at_call 11; clear ST8; (with_reducible refine (laws_markSeriesS.calls k (fun k_ => lo3_0 ≤ k_ ∧ k_ < hi3_0) (.slice Av3_0 r3_0.length cv3_0) r3_0 1 m8 y8_0 w _ HB.out HV3_0.out A8.out).mono ?_); rintro e wl9 ⟨rfl, hr_, hb, hk⟩; replace HV1_0 := am_ (stS_ HV1_0.out hk (by omega)); replace HV2_0 := am_ (stR_ HV2_0.out hk (by omega)); replace HV4_0 := am_ (stR_ HV4_0.out hk (by omega)); replace HV6_0 := am_ (stS_ HV6_0.out hk (by omega)); replace TOP := am_ (Nat.le_trans TOP.out hk.1); replace HB := am_ hb; clear hr_; clear hb hk; have ST9 := trivial) | (go_at_call 9; clear ST9; (with_reducible refine (laws_eqStringS.calls k _ _ r4_0 _ _ r2_0 true _ ?s0 ?s1 ?s2 ?s3 A9.out).mono ?_); (case s0 => exact (Kd.R_reads' HV4_0.out).2.2); (case s1 => exact (Kd.R_reads' HV4_0.out).2.1); (case s2 => exact (Kd.R_reads' HV2_0.out).2.2); (case s3 => exact (Kd.R_reads' HV2_0.out).2.1); rintro e wl10 ⟨rfl, hd_⟩; have hb := drawn_below hd_; clear hd_; replace HV1_0 := am_ (Kd.S_below HV1_0.out hb); replace HV2_0 := am_ (Kd.R_below HV2_0.out hb); replace HV4_0 := am_ (Kd.R_below HV4_0.out hb); replace HV6_0 := am_ (Kd.S_below HV6_0.out hb); replace TOP := am_ (Nat.le_trans TOP.out hb.size); replace HB := am_ (below_step HB.out hb); clear hb; have ST10 := trivial) | (go_at_call 12; clear ST10; (with_reducible refine (laws_markStringS.calls k (fun k_ => lo4_0 ≤ k_ ∧ k_ < hi4_0) (.slice Av4_0 r4_0.length cv4_0) r4_0 1 m10 y10_0 w _ HB.out HV4_0.out A10.out).mono ?_); rintro e wl11 ⟨rfl, hr_, hb, hk⟩; replace HV1_0 := am_ (stS_ HV1_0.out hk (by omega)); replace HV2_0 := am_ (stR_ HV2_0.out hk (by omega)); replace HV6_0 := am_ (stS_ HV6_0.out hk (by omega)); replace TOP := am_ (Nat.le_trans TOP.out hk.1); replace HB := am_ hb; have HM10 := am_ hr_; have hl_ := (Kd.R_reads' hr_).1; (try rw [hl_] at HM10); clear hr_; (try rw [hl_]); clear hl_; clear hb hk; have ST11 := trivial) | (go_at_call 13; clear ST11; (with_reducible refine (laws_heldStringS.calls k _ _ y10_0 1 m10 _ ?s0 ?s1 A11.out).mono ?_); (case s0 => exact (Kd.R_reads' HM10.out).2.2); (case s1 => exact (Kd.R_reads' HM10.out).2.1); rintro e wl12 ⟨rfl, hb⟩; replace HV1_0 := am_ (Kd.S_below HV1_0.out hb); replace HV2_0 := am_ (Kd.R_below HV2_0.out hb); replace HV6_0 := am_ (Kd.S_below HV6_0.out hb); replace HM10 := am_ (Kd.R_below HM10.out hb); replace TOP := am_ (Nat.le_trans TOP.out hb.size); replace HB := am_ (below_step HB.out hb); clear hb; have ST12 := trivial) | (go_at_call 7; clear ST12; (with_reducible refine (laws_toSeriesS.calls k _ _ l0 r12_0 _ ?s0 ?s1 A12.out).mono ?_); (case s0 => exact cc_ (Kd.C_below HR0.out HB.out)); (case s1 => exact HC0.out); rintro e wl13 ⟨v12_0, rfl, ho0, hb⟩; obtain ⟨lo12_0, hi12_0, g1_12_0, g2_12_0, g3_12_0, el_, eh_, HV12_0⟩ := rgS_ ho0 hb HB.out TOP.out; clear el_ eh_ ho0; have n9_ := am_ g2_12_0; clear g2_12_0; replace HV1_0 := am_ (Kd.S_below HV1_0.out hb); replace HV2_0 := am_ (Kd.R_below HV2_0.out hb); replace HV6_0 := am_ (Kd.S_below HV6_0.out hb); replace HM10 := am_ (Kd.R_below HM10.out hb); replace TOP := am_ (Nat.le_trans TOP.out hb.size); replace HB := am_ (below_step HB.out hb); replace TOP := n9_; clear n9_; obtain ⟨Av12_0, cv12_0, ev_⟩ := Kd.S_slice HV12_0.out; subst ev_; clear hb; have ST13 := trivial) | (go_at_call 8; clear ST13; (with_reducible refine (impl_ValuesOf.calls k _ _ r12_0 a1 r13_0 _ ?s0 ?s1 A13.out).mono ?_); (case s0 => exact (Kd.S_reads' HV12_0.out).2.2); (case s1 => exact (Kd.S_reads' HV12_0.out).2.1); rintro e wl14 ⟨v13_0, rfl, ho0, hb⟩; obtain ⟨lo13_0, hi13_0, g1_13_0, g2_13_0, g3_13_0, el_, eh_, HV13_0⟩ := rgR_ ho0 hb HB.out TOP.out; clear el_ eh_ ho0; have n9_ := am_ g2_13_0; clear g2_13_0; replace HV1_0 := am_ (Kd.S_below HV1_0.out hb); replace HV2_0 := am_ (Kd.R_below HV2_0.out hb); replace HV6_0 := am_ (Kd.S_below HV6_0.out hb); replace HM10 := am_ (Kd.R_below HM10.out hb); replace HV12_0 := am_ (Kd.S_below HV12_0.out hb); replace TOP := am_ (Nat.le_trans TOP.out hb.size); replace HB := am_ (below_step HB.out hb); replace TOP := n9_; clear n9_; obtain ⟨Av13_0, cv13_0, ev_⟩ := Kd.R_slice HV13_0.out; subst ev_; clear hb; have ST14 := trivial) | (go_at_call 9; clear ST14; (with_reducible refine (laws_eqStringS.calls k _ _ r13_0 _ _ r2_0 true _ ?s0 ?s1 ?s2 ?s3 A14.out).mono ?_); (case s0 => exact (Kd.R_reads' HV13_0.out).2.2); (case s1 => exact (Kd.R_reads' HV13_0.out).2.1); (case s2 => exact (Kd.R_reads' HV2_0.out).2.2); (case s3 => exact (Kd.R_reads' HV2_0.out).2.1); rintro e wl15 ⟨rfl, hd_⟩; have hb := drawn_below hd_; clear hd_; replace HV1_0 := am_ (Kd.S_below HV1_0.out hb); replace HV2_0 := am_ (Kd.R_below HV2_0.out hb); replace HV6_0 := am_ (Kd.S_below HV6_0.out hb); replace HM10 := am_ (Kd.R_below HM10.out hb); replace HV12_0 := am_ (Kd.S_below HV12_0.out hb); replace HV13_0 := am_ (Kd.R_below HV13_0.out hb); replace TOP := am_ (Nat.le_trans TOP.out hb.size); replace HB := am_ (below_step HB.out hb); clear hb; have ST15 := trivial) | (go_at_call 13; clear ST15; (with_reducible refine (laws_heldStringS.calls k _ _ y10_0 1 m10 _ ?s0 ?s1 A15.out).mono ?_); (case s0 => exact (Kd.R_reads' HM10.out).2.2); (case s1 => exact (Kd.R_reads' HM10.out).2.1); rintro e wl16 ⟨rfl, hb⟩; replace HV1_0 := am_ (Kd.S_below HV1_0.out hb); replace HV2_0 := am_ (Kd.R_below HV2_0.out hb); replace HV6_0 := am_ (Kd.S_below HV6_0.out hb); replace HM10 := am_ (Kd.R_below HM10.out hb); replace HV12_0 := am_ (Kd.S_below HV12_0.out hb); replace HV13_0 := am_ (Kd.R_below HV13_0.out hb); replace TOP := am_ (Nat.le_trans TOP.out hb.size); replace HB := am_ (below_step HB.out hb); clear hb; have ST16 := trivial))
 go_ret
 exact ⟨rf_, HB.out⟩

end Go.Proofs.Ythkhflhmnjgbnaa.Pr
