import Derived.Test.YtfdbbpnmnogddaaPrx0
import Derived.Test.YtfdbbpnmnogddaaCz
import Derived.Test.YtfdbbpnmnogddaaWN
import Derived.Test.YtfdbbpnmnogddaaWNEv
import Derived.Test.YtfdbbpnmnogddaaWShare
import Derived.Test.YtfdbbpnmnogddaaWApart
import Derived.Shelf.RegionOpenPlain
import Derived.Shelf.Spec.SlicesInsert
import Derived.WalkKit
import Derived.Lib.Walk
import Derived.Lib.SliceRun
import Derived.Lib.JoinLaws
import Derived.Lib.AppendZeros
import Derived.Lib.AppendZerosOnto
import Derived.Lib.Overlaps
import Derived.Laws.Externs
import Derived.Laws.IdiomCopy
import Derived.Laws.CopyRow
set_option linter.unusedVariables false
set_option linter.unusedSimpArgs false
set_option maxHeartbeats 4000000
set_option maxRecDepth 100000
namespace Go.Proofs.Ytfdbbpnmnogddaa.Pr
open Go Go.Proofs Go.RowKit Go.Lib Go.Proofs.YtfdbbpnmnogddaaW.PrintWords Go.Proofs.YtfdbbpnmnogddaaW.PrintLast Go.Proofs.YtfdbbpnmnogddaaW.PrintMore
theorem run_copy_row2 {P : Program} (w : World) (dT sT ty elem : TypeId) (g o dLen dCap : Nat) (a : Addr) (sLen sCap : Nat) (cur : Array Value) (t : TypeId) (cs : List Value)
    (hu : P.underlying dT = some (.slice elem)) (hs : (P.info? elem).map (·.size) = some 2)
    (hg : w.heap[g]? = some (.cells cur t (0,0))) (hn : cs.length = Nat.min sLen dLen * 2)
    (hsrc : ∀ j v,cs[j]? = some v → w.cell? (a.add j) = some v) (hfit : o + cs.length ≤ cur.size) (h1 : ∀ v ∈ cs,v.oneCell' = true) :
    (Builtin.copy_ #[dT,sT] ty #[.slice (some ⟨g,o,none⟩) dLen dCap,.slice (some a) sLen sCap]).run P w =
      .ok (goInt (Nat.min sLen dLen)) (w.setRow g (cur.toList.take o ++ cs ++ cur.toList.drop (o + cs.length)).toArray):=by
  have hl:=run_loadCells_list (P:=P) w a cs hsrc
  have hst:=run_storeCells_at P g o t cs 0 cur w hg (by simpa using hfit) h1
  cases hq : P.info? elem with
  | none => simp [hq] at hs
  | some i =>
    have hi : i.size = 2:=by simpa [hq] using hs
    simp [Builtin.copy_,run_underlying hu,Builtin.lenOf,Builtin.firstCells,sizeOf,typeInfo,hq,hi,← hn,hl,hst]
theorem info69z : (Try.prog.info? 69).map (fun i => (i.zero,i.size,i.bytes)) = some (some (.agg #[.slice none 0 0,.slice none 0 0]),2,48):=by kernel_rfl
theorem info69s : (Try.prog.info? 69).map (·.size) = some 2:=by kernel_rfl
theorem ins_shift (b n c i vb vc : Nat) (cur : Array Value) (u0 u1 : Value) (w : World) (hi : i < n) (hroom : n + 1 ≤ c) (hbig : (n + 1) * 48 ≤ 140737488355328) (hvb : vb ≠ b)
    (hb : w.heap[b]? = some (.cells cur 69 (0,0))) (hz : 2 * c ≤ cur.size) (h1 : ∀ v ∈ (cur.toList.drop (2 * i)).take (2 * (n - i)),v.oneCell' = true)
    (hv : w.heap[vb]? = some (.cells #[u0,u1] 69 (0,0))) (h10 : u0.oneCell' = true) (h11 : u1.oneCell' = true) :
    Calls Try.prog 81 #[.slice (some ⟨b,0,none⟩) n c,.int .i64 i,.slice (some ⟨vb,0,none⟩) 1 vc] w fun e w' =>
      e = .returned (.slice (some ⟨b,0,none⟩) (n + 1) c) ∧ w' = w.drew.setRow b (cur.toList.take (2 * i) ++ [u0,u1] ++ (cur.toList.drop (2 * i)).take (2 * (n - i)) ++ cur.toList.drop (2 * (n + 1))).toArray:=by
  have u3:=run_underlying Try.underlying3;have u4:=run_underlying Try.underlying4;have u43:=run_underlying Try.underlying43;have u69:=run_underlying Try.underlying69
  have mixed : Try.prog.follows Departure.mixedOrders = true:=by kernel_rfl
  have hz1 : ¬ ((1 : Int) = 0):=by omega
  have hz2 : ¬ ((i : Int) = (n : Int)):=by omega
  have hcv : ∀ j v,[u0,u1][j]? = some v → w.cell? ⟨vb,0 + j,none⟩ = some v:=fun j v hj => by
    have : (#[u0,u1] : Array Value)[j]? = some v:=by simpa using hj
    simpa [World.cell?,hv] using this
  have hov : ∀ lb cb,(callFunc 112 #[.slice (some ⟨vb,0,none⟩) 1 vc,.slice (some ⟨b,(i + 1) * 2,none⟩) lb cb]).run Try.prog w = .ok (.value (.bool false)) w:=fun lb cb => by
    rw [run_callFunc_extern Try.func112 (by kernel_rfl) (by kernel_rfl) (by kernel_rfl) (e:=Extern.SlicesOverlaps.overlaps #[43,43] #[4]) (by kernel_rfl),
      Lib.run_overlaps_apart w 43 4 69 Try.underlying43 2 Try.sizeOf69 ⟨vb,0,none⟩ ⟨b,(i + 1) * 2,none⟩ 1 vc lb cb hvb 69 69 2 cur.size (by simp [World.shape?,hv]) (by simp [World.shape?,hb]) (by omega) (by simp [World.frozen?,hv]) (by simp [World.frozen?,hv])]
    rfl
  have hw1 : IntKind.i64.wrap ((i : Int) + 1) = (i : Int) + 1:=by rw [IntKind.wrap_i64];omega
  have hw2 : IntKind.i64.wrap ((n : Int) + 1) = (n : Int) + 1:=by rw [IntKind.wrap_i64];omega
  have hb1 : (0 : Int) ≤ (i : Int) + 1:=by omega
  have hin : i ≤ n:=by omega
  have htn : ((i : Int) + 1).toNat = i + 1:=by omega
  have htn2 : ((n : Int) + 1).toNat = n + 1:=by omega
  have hb2 : ¬ (c = i + 1):=by omega
  have hb3 : (i : Int) ≤ (n : Int) + 1:=by omega
  have hb4 : ¬ (c = i):=by omega
  obtain ⟨cs,hcs⟩ : ∃ cs,cs = (cur.toList.drop (2 * i)).take (2 * (n - i)):=⟨_,rfl⟩
  have hcl : cs.length = 2 * (n - i):=by rw [hcs,List.length_take,List.length_drop,Array.length_toList];omega
  have hcat : ∀ j v,cs[j]? = some v → cur[2 * i + j]? = some v:=fun j v hj => by
    rw [hcs,List.getElem?_take] at hj
    split at hj
    · rw [List.getElem?_drop,Array.getElem?_toList] at hj;exact hj
    · cases hj
  have hb' : w.drew.heap[b]? = some (.cells cur 69 (0,0)):=hb
  obtain ⟨arr,harr⟩ : ∃ arr,arr = (cur.toList.take ((i + 1) * 2) ++ cs ++ cur.toList.drop ((i + 1) * 2 + cs.length)).toArray:=⟨_,rfl⟩
  have hcp1 : ∀ ty dc sc,(Builtin.copy_ #[43,43] ty #[.slice (some ⟨b,(i + 1) * 2,none⟩) (n - i) dc,.slice (some ⟨b,i * 2,none⟩) (n + 1 - i) sc]).run Try.prog w.drew = .ok (goInt (Nat.min (n + 1 - i) (n - i))) (w.drew.setRow b arr):=fun ty dc sc => by
    rw [harr]
    exact run_copy_row2 w.drew 43 43 ty 69 b ((i + 1) * 2) (n - i) dc ⟨b,i * 2,none⟩ (n + 1 - i) sc cur 69 cs Try.underlying43 info69s hb' (by rw [hcl];simp only [Nat.min_def];split <;> omega)
      (fun j v hj => by
        have h:=hcat j v hj
        rw [Addr.add_lit]
        show w.drew.cell? ⟨b,i * 2 + j,none⟩ = some v
        rw [show i * 2 + j = 2 * i + j by omega]
        simpa [World.cell?,hb'] using h)
      (by rw [hcl];omega) (fun v hv => h1 v (by rw [← hcs];exact hv))
  have hbA : (w.drew.setRow b arr).heap[b]? = some (.cells arr 69 (0,0)):=setRow_heap w.drew b cur arr 69 _ hb'
  have hvA : (w.drew.setRow b arr).heap[vb]? = some (.cells #[u0,u1] 69 (0,0)):=(setRow_other w.drew b vb arr hvb).trans hv
  have hasz : arr.size = cur.size:=by
    rw [harr]
    simp only [List.size_toArray,List.length_append,List.length_take,List.length_drop,Array.length_toList,hcl]
    omega
  have hcp2 : ∀ ty dc,(Builtin.copy_ #[43,43] ty #[.slice (some ⟨b,i * 2,none⟩) (n + 1 - i) dc,.slice (some ⟨vb,0,none⟩) 1 vc]).run Try.prog (w.drew.setRow b arr) = .ok (goInt (Nat.min 1 (n + 1 - i))) ((w.drew.setRow b arr).setRow b (arr.toList.take (i * 2) ++ [u0,u1] ++ arr.toList.drop (i * 2 + 2)).toArray):=fun ty dc =>
    run_copy_row2 (w.drew.setRow b arr) 43 43 ty 69 b (i * 2) (n + 1 - i) dc ⟨vb,0,none⟩ 1 vc arr 69 [u0,u1] Try.underlying43 info69s hbA (by simp only [List.length_cons,List.length_nil,Nat.min_def];split <;> omega)
      (fun j v hj => by
        rw [Addr.add_lit]
        have : (#[u0,u1] : Array Value)[j]? = some v:=by simpa using hj
        simpa [World.cell?,hvA] using this)
      (by simp only [List.length_cons,List.length_nil];omega) (fun v hv => by simp at hv;rcases hv with rfl|rfl <;> assumption)
  have hcs':=am_ hcs;have harr':=am_ harr;clear hcs harr
  go_enter Try.func81,Try.ntmps81
  go_wp2_with (simp only [hov])
  go_region_law_o (refine step_copy_runI rfl _ _ 43 43 rfl _ _ (by simp [Act.eval,Act.put]) (by simp [Act.eval,Act.put]) (hcp1 _ _ _) ?_)
  go_wp2_with (at_builtin;refine wpList_copy_runI _ rfl _ _ 43 43 rfl _ _ rfl rfl (hcp2 _ _) ?_)
  go_ret
  refine ⟨rfl,?_⟩
  rw [setRow_setRow,harr'.out,← hcs'.out]
  congr 2
  have e1 : (cur.toList.take ((i + 1) * 2) ++ cs ++ cur.toList.drop ((i + 1) * 2 + cs.length)).take (i * 2) = cur.toList.take (2 * i):=by
    rw [List.append_assoc,List.take_append_of_le_length (by rw [List.length_take,Array.length_toList];omega),List.take_take]
    congr 1
    omega
  have e2 : (cur.toList.take ((i + 1) * 2) ++ cs ++ cur.toList.drop ((i + 1) * 2 + cs.length)).drop (i * 2 + 2) = cs ++ cur.toList.drop (2 * (n + 1)):=by
    rw [List.append_assoc,List.drop_append_of_le_length (by rw [List.length_take,Array.length_toList];omega),List.drop_eq_nil_of_le (by rw [List.length_take];omega),List.nil_append,hcl]
    congr 2
    omega
  simp only [show ∀ l : List Value,l.toArray.toList = l from fun l => rfl,e1,e2]
  simp [List.append_assoc]
theorem zc_len (k : Nat) : (Builtin.zeroCells (Value.agg #[.slice none 0 0,.slice none 0 0]).cells k).size = 2 * k:=by
  simp [Builtin.zeroCells,Value.cells]
  omega
theorem zc_one (k : Nat) : ∀ v ∈ (Builtin.zeroCells (Value.agg #[.slice none 0 0,.slice none 0 0]).cells k).toList,v.oneCell' = true:=by
  intro v hv
  simp [Builtin.zeroCells,Value.cells] at hv
  obtain ⟨q,_,rfl⟩:=hv
  rcases (show q % 2 = 0 ∨ q % 2 = 1 by omega) with h|h <;> rw [h] <;> rfl
theorem ins_grow (b n c i vb vc : Nat) (cur : Array Value) (u0 u1 : Value) (w : World) (hi : i < n) (hnc : n ≤ c) (hroom : c < n + 1) (hbig : (n + 1) * 48 ≤ 140737488355328)
    (hb : w.heap[b]? = some (.cells cur 69 (0,0))) (hz : 2 * c ≤ cur.size) (h1 : ∀ v ∈ (cur.toList.drop (2 * i)).take (2 * (n - i)),v.oneCell' = true)
    (hv : w.heap[vb]? = some (.cells #[u0,u1] 69 (0,0))) (h10 : u0.oneCell' = true) (h11 : u1.oneCell' = true) :
    Calls Try.prog 81 #[.slice (some ⟨b,0,none⟩) n c,.int .i64 i,.slice (some ⟨vb,0,none⟩) 1 vc] w fun e w' =>
      ∃ (G : Nat) (arr : Array Value),e = .returned (.slice (some ⟨w.heap.size,0,none⟩) (n + 1) G) ∧ n + 1 ≤ G ∧ G ≤ maxLen ∧ w'.heap[w.heap.size]? = some (.cells arr 69 (0,0)) ∧ arr.size = 2 * G ∧
        arr.toList.take (2 * (n + 1)) = cur.toList.take (2 * i) ++ [u0,u1] ++ (cur.toList.drop (2 * i)).take (2 * (n - i)) ∧ Below w.heap.size w w':=by
  have u3:=run_underlying Try.underlying3;have u4:=run_underlying Try.underlying4;have u43:=run_underlying Try.underlying43;have u69:=run_underlying Try.underlying69
  have mixed : Try.prog.follows Departure.mixedOrders = true:=by kernel_rfl
  obtain ⟨i0,hi0,hz0,hzs,hzb⟩:=info_parts info69z
  have hz1 : ¬ ((1 : Int) = 0):=by omega
  have hz2 : ¬ ((i : Int) = (n : Int)):=by omega
  have hz3 : (c : Int) < (n : Int) + 1:=by omega
  have hbw : b < w.heap.size:=(Array.getElem?_eq_some_iff.1 hb).1
  have hvw : vb < w.heap.size:=(Array.getElem?_eq_some_iff.1 hv).1
  have hkk : (n : Int) + 1 - (i : Int) = ((n + 1 - i : Nat) : Int):=by omega
  have hik : i + (n + 1 - i) = n + 1:=by omega
  have hold : (Builtin.firstCells i0.size i (.slice (some ⟨b,0,none⟩) i c)).run Try.prog w.drew = .ok (cur.toList.take (2 * i)).toArray w.drew:=by
    rw [hzs]
    exact run_firstCells_some w.drew 2 i ⟨b,0,none⟩ i c (cur.toList.take (2 * i)) (by rw [List.length_take,Array.length_toList];omega) (fun j v hj => by
      rw [Addr.add_lit,Nat.zero_add]
      rw [List.getElem?_take] at hj
      split at hj
      · rw [Array.getElem?_toList] at hj
        have hb' : w.drew.heap[b]? = some (.cells cur 69 (0,0)):=hb
        simpa [World.cell?,hb'] using hj
      · cases hj)
  obtain ⟨G,hG⟩ : ∃ G,G = grownCap w (n + 1) c 69:=⟨_,rfl⟩
  obtain ⟨ROW,hROW⟩ : ∃ ROW : Array Value,ROW = (cur.toList.take (2 * i)).toArray ++ Builtin.zeroCells (Value.agg #[.slice none 0 0,.slice none 0 0]).cells (n + 1 - i) ++ Builtin.zeroCells (Value.agg #[.slice none 0 0,.slice none 0 0]).cells (G - (n + 1)):=⟨_,rfl⟩
  have hGn : n + 1 ≤ G:=by rw [hG];exact grownCap_ge w _ _ _
  have hG63 : G ≤ maxLen:=by rw [hG];exact grownCap_le_maxLen w (n + 1) c 69 (by unfold maxLen;omega)
  have hrz : ∀ ty,(Builtin.append_ #[43,3] ty #[.slice (some ⟨b,0,none⟩) i c,.int .i64 ((n : Int) + 1 - (i : Int))]).run Try.prog w = .ok (.slice (some ⟨w.heap.size,0,none⟩) (n + 1) G) (w.drew.alloc (.cells ROW 69)):=fun ty => by
    have h:=Lib.run_append_grow_zeros w 43 3 ty 69 i0 _ .i64 .i64 Try.underlying43 Try.underlying3 hi0 hz0 (some ⟨b,0,none⟩) i c (cur.toList.take (2 * i)) hold (n + 1 - i) (by omega) (by omega) (by omega) (by omega) (by rw [hzb];omega) (by rw [hzb,hik];exact growslice_fits hroom hbig)
    rw [hik] at h
    rw [hkk,hG,hROW,hG]
    exact h
  have hRs : ROW.size = 2 * G:=by
    rw [hROW,Array.size_append,Array.size_append,zc_len,zc_len,List.size_toArray,List.length_take,Array.length_toList]
    omega
  obtain ⟨cs,hcs⟩ : ∃ cs,cs = (cur.toList.drop (2 * i)).take (2 * (n - i)):=⟨_,rfl⟩
  have hcl : cs.length = 2 * (n - i):=by rw [hcs,List.length_take,List.length_drop,Array.length_toList];omega
  obtain ⟨A1,hA1⟩ : ∃ A1,A1 = (ROW.toList.take (i * 2) ++ [u0,u1] ++ ROW.toList.drop (i * 2 + 2)).toArray:=⟨_,rfl⟩
  have hA1s : A1.size = 2 * G:=by
    rw [hA1]
    simp only [List.size_toArray,List.length_append,List.length_take,List.length_drop,Array.length_toList,List.length_cons,List.length_nil,hRs]
    omega
  obtain ⟨A2,hA2⟩ : ∃ A2,A2 = (A1.toList.take ((i + 1) * 2) ++ cs ++ A1.toList.drop ((i + 1) * 2 + cs.length)).toArray:=⟨_,rfl⟩
  have hcpA : ∀ (W : World),W.heap[w.heap.size]? = some (.cells ROW 69 (0,0)) → W.heap[vb]? = some (.cells #[u0,u1] 69 (0,0)) → ∀ ty dc,(Builtin.copy_ #[43,43] ty #[.slice (some ⟨w.heap.size,i * 2,none⟩) (n + 1 - i) dc,.slice (some ⟨vb,0,none⟩) 1 vc]).run Try.prog W = .ok (goInt (Nat.min 1 (n + 1 - i))) (W.setRow w.heap.size A1):=fun W hN hV ty dc => by
    rw [hA1]
    exact run_copy_row2 W 43 43 ty 69 w.heap.size (i * 2) (n + 1 - i) dc ⟨vb,0,none⟩ 1 vc ROW 69 [u0,u1] Try.underlying43 info69s hN (by simp only [List.length_cons,List.length_nil,Nat.min_def];split <;> omega)
      (fun j v hj => by
        rw [Addr.add_lit]
        have : (#[u0,u1] : Array Value)[j]? = some v:=by simpa using hj
        simpa [World.cell?,hV] using this)
      (by simp only [List.length_cons,List.length_nil];omega) (fun v hv => by simp at hv;rcases hv with rfl|rfl <;> assumption)
  have hcpB : ∀ (W : World),W.heap[w.heap.size]? = some (.cells A1 69 (0,0)) → W.heap[b]? = some (.cells cur 69 (0,0)) → ∀ ty dc sc,(Builtin.copy_ #[43,43] ty #[.slice (some ⟨w.heap.size,(i + 1) * 2,none⟩) (n - i) dc,.slice (some ⟨b,i * 2,none⟩) (n - i) sc]).run Try.prog W = .ok (goInt (Nat.min (n - i) (n - i))) (W.setRow w.heap.size A2):=fun W hN hB ty dc sc => by
    rw [hA2]
    exact run_copy_row2 W 43 43 ty 69 w.heap.size ((i + 1) * 2) (n - i) dc ⟨b,i * 2,none⟩ (n - i) sc A1 69 cs Try.underlying43 info69s hN (by rw [hcl];simp only [Nat.min_def];split <;> omega)
      (fun j v hj => by
        rw [Addr.add_lit]
        rw [hcs,List.getElem?_take] at hj
        split at hj
        · rw [List.getElem?_drop,Array.getElem?_toList] at hj
          rw [show i * 2 + j = 2 * i + j by omega]
          simpa [World.cell?,hB] using hj
        · cases hj)
      (by rw [hcl];omega) (fun v hv => h1 v (by rw [← hcs];exact hv))
  obtain ⟨W1,hW1⟩ : ∃ W1,W1 = w.drew.alloc (.cells ROW 69):=⟨_,rfl⟩
  rw [← hW1] at hrz
  have hN1 : W1.heap[w.heap.size]? = some (.cells ROW 69 (0,0)):=by rw [hW1];show (w.heap.push (.cells ROW 69 (0,0)))[w.heap.size]? = _;simp
  have hV1 : W1.heap[vb]? = some (.cells #[u0,u1] 69 (0,0)):=by rw [hW1];show (w.heap.push (.cells ROW 69 (0,0)))[vb]? = _;rw [Array.getElem?_push,if_neg (by omega)];exact hv
  have hB1 : W1.heap[b]? = some (.cells cur 69 (0,0)):=by rw [hW1];show (w.heap.push (.cells ROW 69 (0,0)))[b]? = _;rw [Array.getElem?_push,if_neg (by omega)];exact hb
  have hN2 : (W1.setRow w.heap.size A1).drew.heap[w.heap.size]? = some (.cells A1 69 (0,0)):=setRow_heap W1 _ ROW A1 69 _ hN1
  have hB2 : (W1.setRow w.heap.size A1).drew.heap[b]? = some (.cells cur 69 (0,0)):=(setRow_other W1 _ b A1 (by omega)).trans hB1
  have hw1 : IntKind.i64.wrap ((i : Int) + 1) = (i : Int) + 1:=by rw [IntKind.wrap_i64];omega
  have hw2 : IntKind.i64.wrap ((n : Int) + 1) = (n : Int) + 1:=by rw [IntKind.wrap_i64];omega
  have hw3 : IntKind.i64.wrap ((n : Int) + 1 - (i : Int)) = (n : Int) + 1 - (i : Int):=by rw [IntKind.wrap_i64];omega
  have hb1 : (0 : Int) ≤ (i : Int) + 1:=by omega
  have hin : i ≤ n:=by omega
  have htn : ((i : Int) + 1).toNat = i + 1:=by omega
  have hb3 : (i : Int) ≤ (n : Int):=by omega
  have hGi : ¬ (G = i):=by omega
  have hGim : ¬ (G = i + 1):=by omega
  have hci : ¬ (c = i):=by omega
  have hcs':=am_ hcs;have hA1':=am_ hA1;have hA2':=am_ hA2;have hW1':=am_ hW1;have hROW':=am_ hROW;have hG':=am_ hG
  clear hcs hA1 hA2 hW1 hROW hG hkk hik hold
  go_enter Try.func81,Try.ntmps81
  go_wp2_with (first
    | (at_builtin;refine Lib.wpList_append_run _ rfl _ _ _ _ rfl _ _ rfl rfl _ _ (hrz _) ?_)
    | (at_builtin;refine wpList_copy_runI _ rfl _ _ 43 43 rfl _ _ rfl rfl (hcpA _ hN1 hV1 _ _) ?_))
  go_region_law_o (refine step_copy_runI rfl _ _ 43 43 rfl (.slice (some ⟨w.heap.size,(i + 1) * 2,none⟩) (n - i) (G - (i + 1))) (.slice (some ⟨b,i * 2,none⟩) (n - i) (c - i)) (by simp [Act.eval,Act.put]) (by simp [Act.eval,Act.put]) (hcpB _ hN2 hB2 3 (G - (i + 1)) (c - i)) ?_)
  go_wp2
  go_ret
  have hA2s : A2.size = 2 * G:=by
    rw [hA2'.out]
    simp only [List.size_toArray,List.length_append,List.length_take,List.length_drop,Array.length_toList,hA1s,hcl]
    omega
  refine ⟨G,A2,rfl,hGn,hG63,setRow_heap _ _ A1 A2 69 _ hN2,hA2s,?_,?_⟩
  · have e1 : A1.toList.take ((i + 1) * 2) = cur.toList.take (2 * i) ++ [u0,u1]:=by
      have e2 : ROW.toList.take (i * 2) = cur.toList.take (2 * i):=by
        rw [hROW'.out,Array.toList_append,Array.toList_append,List.append_assoc]
        show List.take (i * 2) (cur.toList.take (2 * i) ++ _) = _
        rw [List.take_append_of_le_length (by rw [List.length_take,Array.length_toList];omega),List.take_take]
        congr 1
        omega
      rw [hA1'.out]
      show List.take ((i + 1) * 2) (ROW.toList.take (i * 2) ++ [u0,u1] ++ ROW.toList.drop (i * 2 + 2)) = _
      rw [e2,List.take_append_of_le_length (by simp only [List.length_append,List.length_take,Array.length_toList,List.length_cons,List.length_nil];omega),List.take_of_length_le (by simp only [List.length_append,List.length_take,Array.length_toList,List.length_cons,List.length_nil];omega)]
    rw [hA2'.out,← hcs'.out]
    show List.take (2 * (n + 1)) (A1.toList.take ((i + 1) * 2) ++ cs ++ A1.toList.drop ((i + 1) * 2 + cs.length)) = _
    rw [e1,List.take_append_of_le_length (by simp only [List.length_append,List.length_take,Array.length_toList,List.length_cons,List.length_nil,hcl];omega),List.take_of_length_le (by simp only [List.length_append,List.length_take,Array.length_toList,List.length_cons,List.length_nil,hcl];omega)]
  · have hw0 : W1.os = w.os ∧ W1.tape = w.tape ∧ W1.output = w.output ∧ W1.heap.size = w.heap.size + 1:=by rw [hW1'.out];exact ⟨rfl,rfl,rfl,Array.size_push _⟩
    refine ⟨hw0.1,hw0.2.1,hw0.2.2.1,?_,?_⟩
    · have h2 : ∀ (W : World) (g : Nat) (a : Array Value),(W.setRow g a).heap.size = W.heap.size:=fun W g a => by simp [World.setRow]
      rw [h2]
      show w.heap.size ≤ (W1.setRow w.heap.size A1).heap.size
      rw [h2,hw0.2.2.2]
      omega
    · intro k hk
      rw [setRow_other _ _ k A2 (by omega)]
      show (W1.setRow w.heap.size A1).heap[k]? = _
      rw [setRow_other _ _ k A1 (by omega),hW1'.out]
      show (w.heap.push (.cells ROW 69 (0,0)))[k]? = _
      rw [Array.getElem?_push,if_neg (by omega)]
section
variable {α : Type} {d : Kd α} {e base : Nat} {ok okp : Nat → Prop} {W w1 : World} {v v1 : Value} {xs : List α}
theorem N_inserted {rows : List (List Value)} {i : Nat} {p : α} {c0 : List Value} (h0 : ∀ k,v.ownBlock = some k → ok k) (hl : rows.length = xs.length) (hf : ∀ (j : Nat) (x : α) (c : List Value),xs[j]? = some x → rows[j]? = some c → Kd.FK d W (fun k => ok k ∧ some k ≠ v.ownBlock) x c)
    (hp : Kd.FK d W okp p c0) (hokp : ∀ k,okp k → ok k ∧ some k ≠ v.ownBlock) (hfresh : ∀ k,W.heap.size ≤ k → ok k) (hi : i ≤ xs.length)
    (hR : (Kd.raw d.sz).R e w1 base (fun _ => True) v1 (rows.take i ++ c0 :: rows.drop i)) (hg : W.grownBy w1 v.ownBlock) (hat : v1.ownBlock = v.ownBlock ∨ ∃ b,v1.ownBlock = some b ∧ W.heap.size ≤ b) : Kd.N d e w1 base ok v1 (xs.take i ++ p :: xs.drop i):=by
  have hne : ∀ k,some k ≠ v.ownBlock → k < W.heap.size → some k ≠ v1.ownBlock:=by
    intro k hk hlt
    rcases hat with hat|⟨b,hb,hle⟩
    · rw [hat];exact hk
    · rw [hb]
      intro he
      injection he with he
      omega
  have step : ∀ {x : α} {c : List Value} {o : Nat → Prop},Kd.FK d W o x c → (∀ k,o k → ok k ∧ some k ≠ v.ownBlock) → Kd.FK d w1 (fun k => ok k ∧ some k ≠ v1.ownBlock) x c:=by
    intro x c o hq ho
    exact Kd.FK_mono (Kd.FK_step (Kd.FK_bound hq) (fun k hk hlt => hg.block k hlt (ho k hk.1).2)) (fun k hk => ⟨(ho k hk.1).1,hne k (ho k hk.1).2 hk.2⟩)
  refine ⟨fun k hk => ?_,rows.take i ++ c0 :: rows.drop i,by simp only [List.length_append,List.length_take,List.length_cons,List.length_drop,hl],Kd.raw_tight hR,fun j x c hx hc => ?_⟩
  · rcases hat with hat|⟨b,hb,hle⟩
    · exact h0 k (hat ▸ hk)
    · rw [hb] at hk
      injection hk with hk
      exact hfresh k (by omega)
  · rcases Nat.lt_or_ge j i with hlt|hge
    · rw [List.getElem?_append_left (by rw [List.length_take];omega),List.getElem?_take,if_pos hlt] at hx hc
      exact step (hf j x c hx hc) (fun _ hk => hk)
    · rw [List.getElem?_append_right (by rw [List.length_take];omega),List.length_take,Nat.min_eq_left (by omega)] at hx hc
      cases hj : j - i with
      | zero =>
        rw [hj] at hx hc
        simp only [List.getElem?_cons_zero,Option.some.injEq] at hx hc
        subst hx hc
        exact step hp hokp
      | succ m =>
        rw [hj,List.getElem?_cons_succ,List.getElem?_drop] at hx hc
        exact step (hf _ x c hx hc) (fun _ hk => hk)
end
def good2 (r : List Value) : Prop:=r.length = 2 ∧ ∀ u ∈ r,u.oneCell' = true
theorem flat_take (rows : List (List Value)) (h : ∀ r ∈ rows,good2 r) : ∀ i,rows.flatten.take (2 * i) = (rows.take i).flatten:=by
  induction rows with
  | nil => intro i;simp
  | cons r t ih =>
    intro i
    cases i with
    | zero => simp
    | succ i =>
      have hr:=(h r (List.mem_cons_self ..)).1
      rw [List.flatten_cons,List.take_append,List.take_of_length_le (by omega),hr,show 2 * (i + 1) - 2 = 2 * i by omega,ih (fun x hx => h x (List.mem_cons_of_mem _ hx)),List.take_succ_cons,List.flatten_cons]
theorem flat_drop (rows : List (List Value)) (h : ∀ r ∈ rows,good2 r) : ∀ i,rows.flatten.drop (2 * i) = (rows.drop i).flatten:=by
  induction rows with
  | nil => intro i;simp
  | cons r t ih =>
    intro i
    cases i with
    | zero => simp
    | succ i =>
      have hr:=(h r (List.mem_cons_self ..)).1
      rw [List.flatten_cons,List.drop_append,List.drop_eq_nil_of_le (by omega),hr,show 2 * (i + 1) - 2 = 2 * i by omega,ih (fun x hx => h x (List.mem_cons_of_mem _ hx)),List.drop_succ_cons,List.nil_append]
theorem flat_len (rows : List (List Value)) (h : ∀ r ∈ rows,good2 r) : rows.flatten.length = 2 * rows.length:=by
  induction rows with
  | nil => rfl
  | cons r t ih =>
    have hr:=(h r (List.mem_cons_self ..)).1
    rw [List.flatten_cons,List.length_append,ih (fun x hx => h x (List.mem_cons_of_mem _ hx)),List.length_cons]
    omega
theorem reps_good {rows : List (List Value)} {inner : List Value} (h : Reps (fun x cs => cs = x ∧ cs.length = 2 ∧ ∀ u ∈ cs,u.oneCell' = true) 2 rows inner) : (∀ r ∈ rows,good2 r) ∧ inner = rows.flatten:=by
  induction rows generalizing inner with
  | nil => exact ⟨(fun _ h => by cases h),by have:=h.1;simpa using this⟩
  | cons r t ih =>
    obtain ⟨h1,h2⟩:=h
    obtain ⟨a1,a2,a3⟩:=h2 0 r rfl
    rw [Nat.zero_mul,List.drop_zero] at a1 a2 a3
    have hq : Reps (fun x cs => cs = x ∧ cs.length = 2 ∧ ∀ u ∈ cs,u.oneCell' = true) 2 t (inner.drop 2):=⟨by rw [List.length_drop,h1,List.length_cons];omega,fun j p hj => by
      have:=h2 (j + 1) p (by simpa using hj)
      rw [show (j + 1) * 2 = 2 + j * 2 by omega,← List.drop_drop] at this
      exact this⟩
    obtain ⟨b1,b2⟩:=ih hq
    refine ⟨fun x hx => ?_,?_⟩
    · rcases List.mem_cons.1 hx with rfl|hx
      · exact ⟨a1 ▸ a2,a1 ▸ a3⟩
      · exact b1 x hx
    · rw [List.flatten_cons,← b2,← a1,List.take_append_drop]
theorem good_reps {rows : List (List Value)} (h : ∀ r ∈ rows,good2 r) : Reps (fun x cs => cs = x ∧ cs.length = 2 ∧ ∀ u ∈ cs,u.oneCell' = true) 2 rows rows.flatten:=by
  refine ⟨by rw [flat_len rows h];omega,fun j p hj => ?_⟩
  have hp : p ∈ rows:=List.mem_of_getElem? hj
  have e : (rows.flatten.drop (j * 2)).take 2 = p:=by
    rw [Nat.mul_comm,flat_drop rows h]
    obtain ⟨hlt,rfl⟩:=List.getElem?_eq_some_iff.1 hj
    rw [List.drop_eq_getElem_cons hlt,List.flatten_cons,List.take_append_of_le_length (by have:=(h _ hp).1;omega),List.take_of_length_le (by have:=(h _ hp).1;omega)]
  exact ⟨e,by rw [e];exact (h p hp).1,by rw [e];exact (h p hp).2⟩
theorem insert_N {w0 W : World} (base : Nat) (A : Option Addr) (c : Nat) (xs : List S69) (p : S69) (u0 u1 : Value) (ok okp : Nat → Prop) (i : Nat) (hi : i ≤ xs.length)
    (hp : Kd.FK k69 W okp p [u0,u1]) (hokp : ∀ k,okp k → ok k ∧ some k ≠ (Value.slice A xs.length c).ownBlock) (hfresh : ∀ k,W.heap.size ≤ k → ok k)
    (HO : Kd.N k69 69 W base ok (.slice A xs.length c) xs) (HB : Below base w0 W) (hbase : base ≤ W.heap.size) (hl : (xs.length + 1) * 48 ≤ 140737488355328) :
    Calls Try.prog 81 #[.slice A xs.length c,.int .i64 i,.slice (some ⟨W.heap.size,0,none⟩) 1 1] (W.alloc (.cells #[u0,u1] 69)) fun e w' =>
      ∃ v1,e = .returned v1 ∧ Kd.N k69 69 w' base ok v1 (xs.take i ++ p :: xs.drop i) ∧ Below base w0 w' ∧ W.grownBy w' (Value.slice A xs.length c).ownBlock:=by
  rcases Nat.lt_or_ge i xs.length with hlt|hge
  · have HO2:=HO
    obtain ⟨h0,rows,hlr,hR,hf⟩:=HO2
    obtain ⟨hR0,inner,⟨hil,hrow⟩,hreps⟩:=hR
    obtain ⟨hgood,hinner⟩:=reps_good hreps
    rcases hrow with ⟨_,hn0⟩|⟨g,cap,cur,hv,hbg,hcur,hncap,hcapm,hcs,htake⟩
    · omega
    rw [hlr] at hil hv hncap htake
    injection hv with hA _ hc
    subst hA hc
    have hgW : g < W.heap.size:=(Array.getElem?_eq_some_iff.1 hcur).1
    have hcurA : (W.alloc (.cells #[u0,u1] 69)).heap[g]? = some (.cells cur 69 (0,0)):=by show (W.heap.push _)[g]? = _;rw [Array.getElem?_push,if_neg (by omega)];exact hcur
    have hvA : (W.alloc (.cells #[u0,u1] 69)).heap[W.heap.size]? = some (.cells #[u0,u1] 69 (0,0)):=by show (W.heap.push _)[W.heap.size]? = _;simp
    have hraw:=Kd.FK_raw hp
    have h10 : u0.oneCell' = true:=hraw.2.2 u0 (by simp)
    have h11 : u1.oneCell' = true:=hraw.2.2 u1 (by simp)
    have hsz : k69.sz = 2:=rfl
    have hinn : inner = cur.toList.take (2 * xs.length):=by rw [← htake];congr 1;rw [show (Kd.raw k69.sz).sz = 2 from rfl];omega
    have hseg : (cur.toList.drop (2 * i)).take (2 * (xs.length - i)) = (rows.drop i).flatten:=by
      rw [← flat_drop rows hgood,← hinner,hinn,List.drop_take]
      congr 1
      omega
    have hhead : cur.toList.take (2 * i) = (rows.take i).flatten:=by
      rw [← flat_take rows hgood,← hinner,hinn,List.take_take]
      congr 1
      omega
    have h1 : ∀ v ∈ (cur.toList.drop (2 * i)).take (2 * (xs.length - i)),v.oneCell' = true:=by
      intro v hv
      rw [hseg] at hv
      obtain ⟨r,hr,hv⟩:=List.mem_flatten.1 hv
      exact (hgood r (List.mem_of_mem_drop hr)).2 v hv
    have hcz : 2 * c ≤ cur.size:=by rw [hcs];show 2 * c ≤ c * 2;omega
    have hgood2 : ∀ r ∈ rows.take i ++ [u0,u1] :: rows.drop i,good2 r:=by
      intro r hr
      rcases List.mem_append.1 hr with hr|hr
      · exact hgood r (List.mem_of_mem_take hr)
      · rcases List.mem_cons.1 hr with rfl|hr
        · exact ⟨rfl,hraw.2.2⟩
        · exact hgood r (List.mem_of_mem_drop hr)
    have hflat : (rows.take i ++ [u0,u1] :: rows.drop i).flatten = cur.toList.take (2 * i) ++ [u0,u1] ++ (cur.toList.drop (2 * i)).take (2 * (xs.length - i)):=by
      rw [List.flatten_append,List.flatten_cons,hhead,hseg,List.append_assoc]
    have hlen2 : (rows.take i ++ [u0,u1] :: rows.drop i).length = xs.length + 1:=by simp only [List.length_append,List.length_take,List.length_cons,List.length_drop,hlr];omega
    by_cases hroom : xs.length + 1 ≤ c
    · refine (ins_shift g xs.length c i W.heap.size 1 cur u0 u1 _ hlt hroom hl (by omega) hcurA hcz h1 hvA h10 h11).mono ?_
      rintro e w' ⟨rfl,rfl⟩
      obtain ⟨arr,harr⟩ : ∃ arr,arr = (cur.toList.take (2 * i) ++ [u0,u1] ++ (cur.toList.drop (2 * i)).take (2 * (xs.length - i)) ++ cur.toList.drop (2 * (xs.length + 1))).toArray:=⟨_,rfl⟩
      rw [← harr]
      have hat : ((W.alloc (.cells #[u0,u1] 69)).drew.setRow g arr).heap[g]? = some (.cells arr 69 (0,0)):=setRow_heap _ g cur arr 69 _ hcurA
      have hgr : W.grownBy ((W.alloc (.cells #[u0,u1] 69)).drew.setRow g arr) (some g):=⟨rfl,rfl,rfl,by
          show W.heap.size ≤ ((W.heap.push _).modify g _).size
          rw [Array.size_modify,Array.size_push]
          omega,fun k hk hne => by
          rw [setRow_other _ g k arr (fun e => hne (by rw [e]))]
          show (W.heap.push _)[k]? = _
          rw [Array.getElem?_push,if_neg (by omega)]⟩
      have hlarr : arr.toList.take ((xs.length + 1) * 2) = (rows.take i ++ [u0,u1] :: rows.drop i).flatten:=by
        rw [hflat,harr]
        show List.take ((xs.length + 1) * 2) (_ ++ cur.toList.drop (2 * (xs.length + 1))) = _
        have hz : (cur.toList.take (2 * i) ++ [u0,u1] ++ (cur.toList.drop (2 * i)).take (2 * (xs.length - i))).length = (xs.length + 1) * 2:=by
          rw [← hflat,flat_len _ hgood2,hlen2];omega
        rw [List.take_append_of_le_length (by omega),List.take_of_length_le (by omega)]
      have hsarr : arr.size = c * 2:=by
        rw [harr]
        simp only [List.size_toArray,List.length_append,List.length_take,List.length_drop,Array.length_toList,List.length_cons,List.length_nil]
        have : cur.size = c * 2:=hcs
        omega
      refine ⟨_,rfl,?_,?_,hgr⟩
      · refine N_inserted h0 hlr hf hp hokp hfresh hi ⟨fun _ _ => trivial,_,?_,good_reps hgood2⟩ hgr (.inl rfl)
        refine ⟨by rw [flat_len _ hgood2];show _ = _ * 2;omega,.inr ⟨g,c,arr,by rw [hlen2],hbg,hat,by rw [hlen2];exact hroom,hcapm,hsarr,by rw [hlen2];exact hlarr⟩⟩
      · exact ⟨hgr.os.trans HB.os,hgr.tape.trans HB.tape,hgr.output.trans HB.output,Nat.le_trans HB.size hgr.size,fun k hk => (hgr.block k (by omega) (fun e_ => by injection e_ with e_;omega)).trans (HB.block k hk)⟩
    · refine (ins_grow g xs.length c i W.heap.size 1 cur u0 u1 _ hlt hncap (by omega) hl hcurA hcz h1 hvA h10 h11).mono ?_
      rintro e w' ⟨G,arr,rfl,hG1,hG2,hat,hsarr,hlarr,hbel⟩
      have hWs : (W.alloc (.cells #[u0,u1] 69)).heap.size = W.heap.size + 1:=Array.size_push _
      have hgr : W.grownBy w' (some g):=⟨hbel.os,hbel.tape,hbel.output,by have:=hbel.size;omega,fun k hk hne => by
          rw [hbel.block k (by omega)]
          show (W.heap.push _)[k]? = _
          rw [Array.getElem?_push,if_neg (by omega)]⟩
      refine ⟨_,rfl,?_,?_,hgr⟩
      · refine N_inserted h0 hlr hf hp hokp hfresh hi ⟨fun _ _ => trivial,_,?_,good_reps hgood2⟩ hgr (.inr ⟨(W.alloc (.cells #[u0,u1] 69)).heap.size,rfl,Nat.le_trans (Nat.le_succ _) (Nat.le_of_eq hWs.symm)⟩)
        refine ⟨by rw [flat_len _ hgood2];show _ = _ * 2;omega,.inr ⟨(W.alloc (.cells #[u0,u1] 69)).heap.size,G,arr,by rw [hlen2],Nat.le_trans hbase (by rw [hWs];omega),hat,by rw [hlen2];exact hG1,hG2,by rw [hsarr];exact Nat.mul_comm 2 G,by rw [hflat,← hlarr];congr 1;rw [hlen2];exact Nat.mul_comm (xs.length + 1) 2⟩⟩
      · exact ⟨hgr.os.trans HB.os,hgr.tape.trans HB.tape,hgr.output.trans HB.output,Nat.le_trans HB.size hgr.size,fun k hk => (hgr.block k (by omega) (fun e_ => by injection e_ with e_;omega)).trans (HB.block k hk)⟩
  · have hie : i = xs.length:=by omega
    subst hie
    have u3:=run_underlying Try.underlying3;have u4:=run_underlying Try.underlying4;have u43:=run_underlying Try.underlying43;have u69:=run_underlying Try.underlying69
    have hz1 : ¬ ((1 : Int) = 0):=by omega
    rw [List.take_length,List.drop_length]
    have hlc : xs.length ≤ c:=by
      have:=(Kd.N_reads' HO).2.1
      exact this
    have fin : ∀ {v1 : Value} {w1 : World},Kd.N k69 69 w1 base ok v1 (xs ++ [p]) → Below base w0 w1 → W.grownBy w1 (Value.slice A xs.length c).ownBlock → ∃ v2,Ending.returned v1 = Ending.returned v2 ∧ Kd.N k69 69 w1 base ok v2 (xs ++ [p]) ∧ Below base w0 w1 ∧ W.grownBy w1 (Value.slice A xs.length c).ownBlock:=fun a b c => ⟨_,rfl,a,b,c⟩
    by_cases hcx : c = xs.length
    · subst hcx
      go_enter Try.func81,Try.ntmps81
      go_wp2_with (at_builtin;refine Kd.N_append k69 (w0:=w0) base rfl (.tmp 23) (.tmp 24) 43 69 (.agg #[.slice none 0 0,.slice none 0 0]) 48 rfl Try.underlying43 info69z rfl (by decide) (by omega) (.slice A xs.length xs.length) xs p [u0,u1] ok okp rfl rfl hp hokp hfresh HO HB hbase hl ?_)
      intro v1 w1 hN hBl hgr hat
      go_wp2
      go_ret
      exact fin hN hBl hgr
    · go_enter Try.func81,Try.ntmps81
      go_wp2_with (at_builtin;refine Kd.N_append k69 (w0:=w0) base rfl (.tmp 23) (.tmp 24) 43 69 (.agg #[.slice none 0 0,.slice none 0 0]) 48 rfl Try.underlying43 info69z rfl (by decide) (by omega) (.slice A xs.length c) xs p [u0,u1] ok okp rfl rfl hp hokp hfresh HO HB hbase hl ?_)
      intro v1 w1 hN hBl hgr hat
      go_wp2
      go_ret
      exact fin hN hBl hgr
theorem insert_at {w0 W : World} (base : Nat) (A : Option Addr) (c : Nat) (xs : List S69) (p : S69) (u0 u1 : Value) (ok okp : Nat → Prop) (t : Int) (h0 : 0 ≤ t) (h1 : t ≤ (xs.length : Int))
    (hp : Kd.FK k69 W okp p [u0,u1]) (hokp : ∀ k,okp k → ok k ∧ some k ≠ (Value.slice A xs.length c).ownBlock) (hfresh : ∀ k,W.heap.size ≤ k → ok k)
    (HO : Kd.N k69 69 W base ok (.slice A xs.length c) xs) (HB : Below base w0 W) (hbase : base ≤ W.heap.size) (hl : (xs.length + 1) * 48 ≤ 140737488355328) :
    Calls Try.prog 81 #[.slice A xs.length c,.int .i64 t,.slice (some ⟨W.heap.size,0,none⟩) 1 1] (W.alloc (.cells #[u0,u1] 69)) fun e w' =>
      ∃ v1,e = .returned v1 ∧ Kd.N k69 69 w' base ok v1 (xs.take t.toNat ++ p :: xs.drop t.toNat) ∧ Below base w0 w' ∧ W.grownBy w' (Value.slice A xs.length c).ownBlock:=by
  obtain ⟨i,rfl⟩ : ∃ i : Nat,t = (i : Int):=⟨t.toNat,by omega⟩
  exact insert_N base A c xs p u0 u1 ok okp i (by omega) hp hokp hfresh HO HB hbase hl
def cpS (xs : List S69) (i : Nat) : List S69:=xs.take (i + 1) ++ (xs.drop i).take (xs.length - (i + 1))
theorem cpS_len (xs : List S69) (i : Nat) : xs.length = (cpS xs i).length:=by
  unfold cpS
  rw [List.length_append,List.length_take,List.length_take,List.length_drop]
  omega
theorem N_moved {α : Type} {d : Kd α} {e base : Nat} {ok : Nat → Prop} {W w1 : World} {v : Value} {xs xs2 : List α} {rows rows2 : List (List Value)} (h0 : ∀ k,v.ownBlock = some k → ok k)
    (hf : ∀ (j : Nat) (x : α) (c : List Value),xs[j]? = some x → rows[j]? = some c → Kd.FK d W (fun k => ok k ∧ some k ≠ v.ownBlock) x c) (hl2 : rows2.length = xs2.length)
    (hm : ∀ (j : Nat) (x : α) (c : List Value),xs2[j]? = some x → rows2[j]? = some c → ∃ j2 : Nat,xs[j2]? = some x ∧ rows[j2]? = some c)
    (hR : (Kd.raw d.sz).R e w1 base (fun _ => True) v rows2) (hg : W.grownBy w1 v.ownBlock) : Kd.N d e w1 base ok v xs2:=by
  refine ⟨h0,rows2,hl2,Kd.raw_tight hR,fun j x c hx hc => ?_⟩
  obtain ⟨j2,h1,h2⟩:=hm j x c hx hc
  exact Kd.FK_mono (Kd.FK_step (Kd.FK_bound (hf j2 x c h1 h2)) (fun k hk hlt => hg.block k hlt hk.1.2)) (fun k hk => ⟨hk.1.1,hk.1.2⟩)
theorem cp_at {α : Type} (xs : List α) (i j : Nat) (x : α) (h : (xs.take (i + 1) ++ (xs.drop i).take (xs.length - (i + 1)))[j]? = some x) (hi : i < xs.length) : xs[if j < i + 1 then j else j - 1]? = some x:=by
  split
  · rename_i hj
    rw [List.getElem?_append_left (by rw [List.length_take];omega),List.getElem?_take,if_pos hj] at h
    exact h
  · rename_i hj
    rw [List.getElem?_append_right (by rw [List.length_take];omega),List.length_take,Nat.min_eq_left (by omega),List.getElem?_take] at h
    split at h
    · rw [List.getElem?_drop,show i + (j - (i + 1)) = j - 1 by omega] at h
      exact h
    · cases h
theorem copy_at {W : World} {K K1 K2 K3 : Act → World → Prop} {R : Ending → World → Prop} (base : Nat) (g n c : Nat) (y : List S69) (ok : Nat → Prop) (t : Int) (hy : y.length = n) (h0 : 0 ≤ t) (h1 : t < (n : Int)) (hl : n ≤ 2932031007403)
    (HO : Kd.N k69 69 W base ok (.slice (some ⟨g,0,none⟩) n c) y) {x0 x1 x2 x3 x4 x6 x7 x9 x10 x11 x12 x13 x14 x15 x16 x17 x18 x19 x20 x21 x22 x23 x24 x25 x26 x27 x28 x29 x30 x31 x32 x33 x34 x35 x36 x37 x38 x39 x40 x41 x42 x43 x44 x45 x46 x47 x48 x49 x50 x51 x52 x53 x54 x55 x56 x57 x58 x59 x60 x61 : Value}
    (h : ∀ v45 v49 W',Kd.N k69 69 W' base ok (.slice (some ⟨g,0,none⟩) n c) (cpS y t.toNat) → W.grownBy W' (some g) → K { tmps:=#[x0,x1,x2,x3,x4,.slice (some ⟨g,0,none⟩) n c,x6,x7,.int .i64 t,x9,x10,x11,x12,x13,x14,x15,x16,x17,x18,x19,x20,x21,x22,x23,x24,x25,x26,x27,x28,x29,x30,x31,x32,x33,x34,x35,x36,x37,x38,x39,x40,x41,.slice (some ⟨g,0,none⟩) n c,.int .i64 t,.int .i64 (t + 1),v45,.slice (some ⟨g,0,none⟩) n c,.int .i64 t,.slice (some ⟨g,t.toNat * 2,none⟩) (n - t.toNat) (c - t.toNat),v49,x50,x51,x52,x53,x54,x55,x56,x57,x58,x59,x60,x61],defers:=[] } W') :
    Code.wp Try.prog (Code.region 9 #[{ dst:=some 42,op:=Go.Op.move (Go.Operand.tmp 5),type:=43,pos := "l7_head.go:145", after:=#[],guard:=none },{ dst:=some 43,op:=Go.Op.move (Go.Operand.tmp 8),type:=3,pos := "l7_head.go:145", after:=#[],guard:=none },{ dst:=some 44,op:=Go.Op.binOp Go.BinOp.add 3 (Go.Operand.tmp 43) (Go.Operand.const (Go.Value.int Go.IntKind.i64 1)) 3,type:=3,pos := "l7_head.go:145", after:=#[{ on:=1,ground:=Go.Ground.data }],guard:=none },{ dst:=some 45,op:=Go.Op.slice 43 (Go.Operand.tmp 42) (some (Go.Operand.tmp 44)) none none,type:=43,pos := "l7_head.go:145", after:=#[{ on:=0,ground:=Go.Ground.data },{ on:=2,ground:=Go.Ground.data }],guard:=none },{ dst:=some 46,op:=Go.Op.move (Go.Operand.tmp 5),type:=43,pos := "l7_head.go:145", after:=#[],guard:=none },{ dst:=some 47,op:=Go.Op.move (Go.Operand.tmp 8),type:=3,pos := "l7_head.go:145", after:=#[],guard:=none },{ dst:=some 48,op:=Go.Op.slice 43 (Go.Operand.tmp 46) (some (Go.Operand.tmp 47)) none none,type:=43,pos := "l7_head.go:145", after:=#[{ on:=4,ground:=Go.Ground.data },{ on:=5,ground:=Go.Ground.data }],guard:=none },{ dst:=some 49,op:=Go.Op.call { callee:=Go.Callee.builtin Go.Builtin.copy,args:=#[Go.Operand.tmp 45,Go.Operand.tmp 48],argTypes:=#[43,43] },type:=3,pos := "l7_head.go:145", after:=#[{ on:=3,ground:=Go.Ground.data },{ on:=6,ground:=Go.Ground.data }],guard:=none }] true) (Exit.then K (Exit.inBlock 1 (Exit.then K1 (Exit.then K2 (Exit.inBlock 0 (Exit.then K3 (bodyPost Try.prog Try.f39 R))))))) { tmps:=#[x0,x1,x2,x3,x4,.slice (some ⟨g,0,none⟩) n c,x6,x7,.int .i64 t,x9,x10,x11,x12,x13,x14,x15,x16,x17,x18,x19,x20,x21,x22,x23,x24,x25,x26,x27,x28,x29,x30,x31,x32,x33,x34,x35,x36,x37,x38,x39,x40,x41,x42,x43,x44,x45,x46,x47,x48,x49,x50,x51,x52,x53,x54,x55,x56,x57,x58,x59,x60,x61],defers:=[] } W:=by
  have u3:=run_underlying Try.underlying3;have u4:=run_underlying Try.underlying4;have u43:=run_underlying Try.underlying43;have u69:=run_underlying Try.underlying69
  have mixed : Try.prog.follows Departure.mixedOrders = true:=by kernel_rfl
  have hnc : n ≤ c:=(Kd.N_reads' HO).2.1
  obtain ⟨i,rfl⟩ : ∃ i : Nat,t = (i : Int):=⟨t.toNat,by omega⟩
  simp only [Int.toNat_natCast] at h
  have hi : i < n:=by omega
  have hw1 : IntKind.i64.wrap ((i : Int) + 1) = (i : Int) + 1:=by rw [IntKind.wrap_i64];omega
  have hb1 : (0 : Int) ≤ (i : Int) + 1:=by omega
  have hb2 : (i : Int) + 1 ≤ (n : Int):=by omega
  have htn : ((i : Int) + 1).toNat = i + 1:=by omega
  have hb3 : i ≤ n:=by omega
  have hb4 : ¬ (c = i):=by omega
  have HO2:=HO
  obtain ⟨hb0,rows,hlr,hR,hf⟩:=HO2
  obtain ⟨hR0,inner,⟨hil,hrow⟩,hreps⟩:=hR
  obtain ⟨hgood,hinner⟩:=reps_good hreps
  rcases hrow with ⟨hnil,_⟩|⟨g2,c2,cur,hv,hbg,hcur,hncap,hcapm,hcs,htake⟩
  · cases hnil
  rw [hlr,hy] at hil hv hncap htake
  obtain ⟨rfl,rfl⟩ : g = g2 ∧ c = c2:=by injection hv with a1 a2 a3;injection a1 with a1;injection a1 with a1;exact ⟨a1,a3⟩
  have hcurD : W.drew.heap[g]? = some (.cells cur 69 (0,0)):=hcur
  have hinn : inner = cur.toList.take (2 * n):=by rw [← htake];congr 1;rw [show (Kd.raw k69.sz).sz = 2 from rfl];omega
  have hcz : 2 * c ≤ cur.size:=by rw [hcs];show 2 * c ≤ c * 2;omega
  obtain ⟨cs,hcd⟩ : ∃ cs,cs = (cur.toList.drop (2 * i)).take (2 * (n - (i + 1))):=⟨_,rfl⟩
  have hcl : cs.length = 2 * (n - (i + 1)):=by rw [hcd,List.length_take,List.length_drop,Array.length_toList];omega
  have hcr : cs = ((rows.drop i).take (n - (i + 1))).flatten:=by
    have hg2 : ∀ r ∈ rows.drop i,good2 r:=fun r hr => hgood r (List.mem_of_mem_drop hr)
    rw [← flat_take _ hg2,← flat_drop rows hgood,← hinner,hinn,hcd,List.drop_take,List.take_take]
    congr 1
    omega
  have hcat : ∀ j v,cs[j]? = some v → cur[2 * i + j]? = some v:=fun j v hj => by
    rw [hcd,List.getElem?_take] at hj
    split at hj
    · rw [List.getElem?_drop,Array.getElem?_toList] at hj;exact hj
    · cases hj
  have h1c : ∀ v ∈ cs,v.oneCell' = true:=by
    intro v hv
    rw [hcr] at hv
    obtain ⟨r,hr,hv⟩:=List.mem_flatten.1 hv
    exact (hgood r (List.mem_of_mem_drop (List.mem_of_mem_take hr))).2 v hv
  obtain ⟨arr,harr⟩ : ∃ arr,arr = (cur.toList.take ((i + 1) * 2) ++ cs ++ cur.toList.drop ((i + 1) * 2 + cs.length)).toArray:=⟨_,rfl⟩
  have hsrc : ∀ j v,cs[j]? = some v → W.drew.cell? ((⟨g,i * 2,none⟩ : Addr).add j) = some v:=fun j v hj => by
    have h:=hcat j v hj
    rw [Addr.add_lit]
    show W.drew.cell? ⟨g,i * 2 + j,none⟩ = some v
    rw [show i * 2 + j = 2 * i + j by omega]
    simpa [World.cell?,hcurD] using h
  have hmin : cs.length = Nat.min (n - i) (n - (i + 1)) * 2:=by rw [hcl];simp only [Nat.min_def];split <;> omega
  have hcp : ∀ ty,(Builtin.copy_ #[43,43] ty #[.slice (if c = i + 1 then some ⟨g,0,none⟩ else some ⟨g,(i + 1) * 2,none⟩) (n - (i + 1)) (c - (i + 1)),.slice (some ⟨g,i * 2,none⟩) (n - i) (c - i)]).run Try.prog W.drew = .ok (goInt (Nat.min (n - i) (n - (i + 1)))) (W.drew.setRow g arr):=fun ty => by
    by_cases hc : c = i + 1
    · rw [if_pos hc]
      have hcn : cs = []:=List.eq_nil_of_length_eq_zero (by omega)
      have:=run_copy_row2 W.drew 43 43 ty 69 g 0 (n - (i + 1)) (c - (i + 1)) ⟨g,i * 2,none⟩ (n - i) (c - i) cur 69 cs Try.underlying43 info69s hcurD hmin hsrc (by omega) h1c
      rw [this,harr,hcn]
      simp [List.take_append_drop]
    · rw [if_neg hc,harr]
      exact run_copy_row2 W.drew 43 43 ty 69 g ((i + 1) * 2) (n - (i + 1)) (c - (i + 1)) ⟨g,i * 2,none⟩ (n - i) (c - i) cur 69 cs Try.underlying43 info69s hcurD hmin hsrc (by omega) h1c
  have hat : (W.drew.setRow g arr).heap[g]? = some (.cells arr 69 (0,0)):=setRow_heap W.drew g cur arr 69 _ hcurD
  have hgr : W.grownBy (W.drew.setRow g arr) (some g):=⟨rfl,rfl,rfl,by
      show W.heap.size ≤ (W.heap.modify g _).size
      rw [Array.size_modify]
      exact Nat.le_refl _,fun k hk hne => setRow_other W.drew g k arr (fun e => hne (by rw [e]))⟩
  have hgood2 : ∀ r ∈ rows.take (i + 1) ++ (rows.drop i).take (rows.length - (i + 1)),good2 r:=by
    intro r hr
    rcases List.mem_append.1 hr with hr|hr
    · exact hgood r (List.mem_of_mem_take hr)
    · exact hgood r (List.mem_of_mem_drop (List.mem_of_mem_take hr))
  have hlen2 : (rows.take (i + 1) ++ (rows.drop i).take (rows.length - (i + 1))).length = n:=by rw [List.length_append,List.length_take,List.length_take,List.length_drop];omega
  have hsarr : arr.size = c * 2:=by
    rw [harr]
    simp only [List.size_toArray,List.length_append,List.length_take,List.length_drop,Array.length_toList]
    have : cur.size = c * 2:=hcs
    omega
  have hlarr : arr.toList.take (n * 2) = (rows.take (i + 1) ++ (rows.drop i).take (rows.length - (i + 1))).flatten:=by
    rw [List.flatten_append,← flat_take rows hgood,← hinner,hinn,List.take_take,show rows.length = n by omega,← hcr,harr]
    show List.take (n * 2) (cur.toList.take ((i + 1) * 2) ++ cs ++ _) = _
    rw [List.take_append_of_le_length (by rw [List.length_append,List.length_take,Array.length_toList];omega),List.take_of_length_le (by rw [List.length_append,List.length_take,Array.length_toList];omega)]
    congr 2
    omega
  have HN : Kd.N k69 69 (W.drew.setRow g arr) base ok (.slice (some ⟨g,0,none⟩) n c) (cpS y i):=by
    refine N_moved hb0 hf (by rw [hlen2,← cpS_len,hy]) (fun j x cc hx hcc => ⟨_,cp_at y i j x hx (by omega),cp_at rows i j cc hcc (by omega)⟩) ⟨fun _ _ => trivial,_,?_,good_reps hgood2⟩ hgr
    exact ⟨by rw [flat_len _ hgood2];exact Nat.mul_comm 2 _,.inr ⟨g,c,arr,by rw [hlen2],hbg,hat,by rw [hlen2];exact hncap,hcapm,hsarr,by rw [hlen2];exact hlarr⟩⟩
  clear hcd harr hcr hmin hlen2 hlarr hsarr hinn hinner hcl htake hil hlr hy hv
  go_region_law_o (refine step_copy_runI rfl _ _ 43 43 rfl _ _ (by simp [Act.eval,Act.put]) (by simp [Act.eval,Act.put]) (hcp _) ?_)
  exact h _ _ _ HN hgr
theorem below_grown {b : Nat} {w0 W W2 : World} {row : Option Nat} (hB : Below b w0 W) (hg : W.grownBy W2 row) (hr : ∀ k,row = some k → b ≤ k) (hb : b ≤ W.heap.size) : Below b w0 W2 :=
  ⟨hg.os.trans hB.os,hg.tape.trans hB.tape,hg.output.trans hB.output,Nat.le_trans hB.size hg.size,fun i hi => (hg.block i (Nat.lt_of_lt_of_le hi hb) (fun e_ => by have:=hr i e_.symm;omega)).trans (hB.block i hi)⟩
section
variable {α : Type} {d : Kd α} {e base : Nat} {ok okp : Nat → Prop} {W w1 : World} {v v1 : Value} {xs : List α}
theorem S_rows (h : Kd.S d e W base ok v xs) : ∃ (f : Nat → Nat) (rows : List (List Value)),(∀ k,v.ownBlock = some k → ok k) ∧ rows.length = xs.length ∧ (Kd.raw d.sz).R e W base (fun k => some k = v.ownBlock) v rows ∧
    ∀ (j : Nat) (x : α) (c : List Value),xs[j]? = some x → rows[j]? = some c → d.M W base (fun k => (ok k ∧ some k ≠ v.ownBlock) ∧ f k = j) x c:=by
  obtain ⟨f,h0,inner,ho,hr⟩:=h
  have hl:=hr.1
  rw [List.length_zipIdx] at ho hl
  have hr2 : Reps (fun x cs => d.M W base (fun k => ok k ∧ some k ≠ v.ownBlock) x cs) d.sz xs inner:=⟨hl,fun j p hj => d.M_mono (fun k hk => hk.1) (hr.2 j (p,j) (Kd.zip_at hj))⟩
  refine ⟨f,Kd.chunks d.sz xs.length inner,h0,Kd.chunks_length _ _ _,⟨fun k hk => hk.symm,inner,by rw [Kd.chunks_length];exact ho,Kd.reps_raw hr2 (fun x c hp => ⟨d.K_len (d.K_of_M hp),d.K_one (d.K_of_M hp)⟩)⟩,fun j x c hx hc => ?_⟩
  rw [Kd.chunks_get hc]
  exact hr.2 j (x,j) (Kd.zip_at hx)
theorem rows_S (f : Nat → Nat) {rows : List (List Value)} (h0 : ∀ k,v.ownBlock = some k → ok k) (hl : rows.length = xs.length) (hR : (Kd.raw d.sz).R e W base (fun _ => True) v rows)
    (hf : ∀ (j : Nat) (x : α) (c : List Value),xs[j]? = some x → rows[j]? = some c → d.M W base (fun k => (ok k ∧ some k ≠ v.ownBlock) ∧ f k = j) x c) : Kd.S d e W base ok v xs:=by
  obtain ⟨_,inner,ho,hr⟩:=hR
  refine ⟨f,h0,inner,by rw [List.length_zipIdx,← hl];exact ho,by rw [List.length_zipIdx,← hl];exact hr.1,fun j p hj => ?_⟩
  rw [List.getElem?_zipIdx,Nat.zero_add] at hj
  obtain ⟨x,hx,rfl⟩:=Option.map_eq_some_iff.1 hj
  have hjl : j < rows.length:=by rw [hl];exact (List.getElem?_eq_some_iff.1 hx).1
  have hrow:=List.getElem?_eq_getElem hjl
  have hc:=(hr.2 j _ hrow).1
  have:=hf j x _ hx hrow
  rw [← hc] at this
  exact this
open Classical in
theorem S_inserted {rows : List (List Value)} {i : Nat} {p : α} {c0 : List Value} {f : Nat → Nat} (h0 : ∀ k,v.ownBlock = some k → ok k) (hl : rows.length = xs.length)
    (hf : ∀ (j : Nat) (x : α) (c : List Value),xs[j]? = some x → rows[j]? = some c → d.M W base (fun k => ((ok k ∧ ¬ okp k) ∧ some k ≠ v.ownBlock) ∧ f k = j) x c)
    (hp : d.M W base okp p c0) (hokp : ∀ k,okp k → ok k ∧ some k ≠ v.ownBlock) (hfresh : ∀ k,W.heap.size ≤ k → ok k) (hi : i ≤ xs.length)
    (hR : (Kd.raw d.sz).R e w1 base (fun _ => True) v1 (rows.take i ++ c0 :: rows.drop i)) (hg : W.grownBy w1 v.ownBlock) (hat : v1.ownBlock = v.ownBlock ∨ ∃ b,v1.ownBlock = some b ∧ W.heap.size ≤ b) : Kd.S d e w1 base ok v1 (xs.take i ++ p :: xs.drop i):=by
  have hne : ∀ k,some k ≠ v.ownBlock → k < W.heap.size → some k ≠ v1.ownBlock:=by
    intro k hk hlt
    rcases hat with hat|⟨b,hb,hle⟩
    · rw [hat];exact hk
    · rw [hb]
      intro he
      injection he with he
      omega
  have step : ∀ {x : α} {c : List Value} {o : Nat → Prop} {o2 : Nat → Prop},d.M W base o x c → (∀ k,o k → some k ≠ v.ownBlock) → (∀ k,o k → ok k ∧ o2 k) → d.M w1 base (fun k => (ok k ∧ some k ≠ v1.ownBlock) ∧ o2 k) x c:=by
    intro x c o o2 hq ho ho2
    exact d.M_mono (fun k hk => ⟨⟨(ho2 k hk.1).1,hne k (ho k hk.1) hk.2.2.1⟩,(ho2 k hk.1).2⟩) (Kd.M_step (d.M_bound hq) (fun k hk hlt => hg.block k hlt (ho k hk.1)))
  refine rows_S (fun k => if okp k then i else if i ≤ f k then f k + 1 else f k) (fun k hk => ?_) (by simp only [List.length_append,List.length_take,List.length_cons,List.length_drop,hl]) hR (fun j x c hx hc => ?_)
  · rcases hat with hat|⟨b,hb,hle⟩
    · exact h0 k (hat ▸ hk)
    · rw [hb] at hk
      injection hk with hk
      exact hfresh k (by omega)
  · rcases Nat.lt_or_ge j i with hlt|hge
    · rw [List.getElem?_append_left (by rw [List.length_take];omega),List.getElem?_take,if_pos hlt] at hx hc
      exact step (hf j x c hx hc) (fun _ hk => hk.1.2) (fun k hk => ⟨hk.1.1.1,by rw [if_neg hk.1.1.2,if_neg (by have:=hk.2;omega)];exact hk.2⟩)
    · rw [List.getElem?_append_right (by rw [List.length_take];omega),List.length_take,Nat.min_eq_left (by omega)] at hx hc
      cases hj : j - i with
      | zero =>
        rw [hj] at hx hc
        simp only [List.getElem?_cons_zero,Option.some.injEq] at hx hc
        subst hx hc
        exact step hp (fun k hk => (hokp k hk).2) (fun k hk => ⟨(hokp k hk).1,by rw [if_pos hk];omega⟩)
      | succ m =>
        rw [hj,List.getElem?_cons_succ,List.getElem?_drop] at hx hc
        exact step (hf _ x c hx hc) (fun _ hk => hk.1.2) (fun k hk => ⟨hk.1.1.1,by rw [if_neg hk.1.1.2,if_pos (by have:=hk.2;omega)];have:=hk.2;omega⟩)
end
theorem S_put {W : World} {base g n c : Nat} {xs : List S69} {t : Int} (ok : Nat → Prop) (A : Option Addr) (c2 : Nat) (ys : List S103)
    (h : Kd.S k69 69 W base (fun k => ok k ∧ some k ≠ (Value.slice A ys.length c2).ownBlock) (.slice (some ⟨g,0,none⟩) n c) xs) (h0 : 0 ≤ t) (h1 : t < (n : Int))
    (hr : Kd.R k103 103 W base (fun k => ok k ∧ k ≠ g) (.slice A ys.length c2) ys) :
    Kd.S k69 69 (W.setCells g (t.toNat * k69.sz + 1) [.slice A ys.length c2]) base ok (.slice (some ⟨g,0,none⟩) n c) (xs.set t.toNat (⟨(rd_T69 xs t).f0,ys⟩ : S69)):=by
  obtain ⟨oki,cl,hcl,hM,_,_,hoki,hH⟩:=Kd.S_elem h z69 t h0 h1
  obtain ⟨v0,v1,rfl,hR0,hR1⟩:=k69_openM hM
  refine (Kd.S_seg (okg:=fun k => some k = (Value.slice A ys.length c2).ownBlock) (okp:=fun k => oki k ∨ some k = (Value.slice A ys.length c2).ownBlock) (seg:=[.slice A ys.length c2]) (j:=1) (c:=[v0,v1]) hH h0 h1 (show 2 ≤ 2 from by decide)
    (k69_mkM _ _ _ (⟨(rd_T69 xs t).f0,ys⟩ : S69) (Kd.R_mono hR0 (fun _ h_ => Or.inl h_)) (Kd.R_mono (Kd.R_tight rfl hr) (fun _ h_ => Or.inr h_))) (fun _ hk => hk) (fun k hk => hr.1 k hk.symm)).1
theorem insert_S {w0 W : World} (base : Nat) (A : Option Addr) (c : Nat) (xs : List S69) (p : S69) (u0 u1 : Value) (ok okp : Nat → Prop) (i : Nat) (hi : i ≤ xs.length)
    (hp : k69.M W base okp p [u0,u1]) (hokp : ∀ k,okp k → ok k ∧ some k ≠ (Value.slice A xs.length c).ownBlock) (hfresh : ∀ k,W.heap.size ≤ k → ok k)
    (HO : Kd.S k69 69 W base (fun k => ok k ∧ ¬ okp k) (.slice A xs.length c) xs) (HB : Below base w0 W) (hbase : base ≤ W.heap.size) (hl : (xs.length + 1) * 48 ≤ 140737488355328) :
    Calls Try.prog 81 #[.slice A xs.length c,.int .i64 i,.slice (some ⟨W.heap.size,0,none⟩) 1 1] (W.alloc (.cells #[u0,u1] 69)) fun e w' =>
      ∃ v1,e = .returned v1 ∧ Kd.S k69 69 w' base ok v1 (xs.take i ++ p :: xs.drop i) ∧ Below base w0 w' ∧ W.grownBy w' (Value.slice A xs.length c).ownBlock:=by
  rcases Nat.lt_or_ge i xs.length with hlt|hge
  · have HO2:=HO
    obtain ⟨f,rows,h0,hlr,hR,hf⟩:=S_rows HO2
    obtain ⟨hR0,inner,⟨hil,hrow⟩,hreps⟩:=hR
    obtain ⟨hgood,hinner⟩:=reps_good hreps
    rcases hrow with ⟨_,hn0⟩|⟨g,cap,cur,hv,hbg,hcur,hncap,hcapm,hcs,htake⟩
    · omega
    rw [hlr] at hil hv hncap htake
    injection hv with hA _ hc
    subst hA hc
    have hgW : g < W.heap.size:=(Array.getElem?_eq_some_iff.1 hcur).1
    have hcurA : (W.alloc (.cells #[u0,u1] 69)).heap[g]? = some (.cells cur 69 (0,0)):=by show (W.heap.push _)[g]? = _;rw [Array.getElem?_push,if_neg (by omega)];exact hcur
    have hvA : (W.alloc (.cells #[u0,u1] 69)).heap[W.heap.size]? = some (.cells #[u0,u1] 69 (0,0)):=by show (W.heap.push _)[W.heap.size]? = _;simp
    have hraw : True ∧ [u0,u1].length = 2 ∧ ∀ u ∈ [u0,u1],u.oneCell' = true:=⟨trivial,rfl,k69.K_one (k69.K_of_M hp)⟩
    have h10 : u0.oneCell' = true:=hraw.2.2 u0 (by simp)
    have h11 : u1.oneCell' = true:=hraw.2.2 u1 (by simp)
    have hsz : k69.sz = 2:=rfl
    have hinn : inner = cur.toList.take (2 * xs.length):=by rw [← htake];congr 1;rw [show (Kd.raw k69.sz).sz = 2 from rfl];omega
    have hseg : (cur.toList.drop (2 * i)).take (2 * (xs.length - i)) = (rows.drop i).flatten:=by
      rw [← flat_drop rows hgood,← hinner,hinn,List.drop_take]
      congr 1
      omega
    have hhead : cur.toList.take (2 * i) = (rows.take i).flatten:=by
      rw [← flat_take rows hgood,← hinner,hinn,List.take_take]
      congr 1
      omega
    have h1 : ∀ v ∈ (cur.toList.drop (2 * i)).take (2 * (xs.length - i)),v.oneCell' = true:=by
      intro v hv
      rw [hseg] at hv
      obtain ⟨r,hr,hv⟩:=List.mem_flatten.1 hv
      exact (hgood r (List.mem_of_mem_drop hr)).2 v hv
    have hcz : 2 * c ≤ cur.size:=by rw [hcs];show 2 * c ≤ c * 2;omega
    have hgood2 : ∀ r ∈ rows.take i ++ [u0,u1] :: rows.drop i,good2 r:=by
      intro r hr
      rcases List.mem_append.1 hr with hr|hr
      · exact hgood r (List.mem_of_mem_take hr)
      · rcases List.mem_cons.1 hr with rfl|hr
        · exact ⟨rfl,hraw.2.2⟩
        · exact hgood r (List.mem_of_mem_drop hr)
    have hflat : (rows.take i ++ [u0,u1] :: rows.drop i).flatten = cur.toList.take (2 * i) ++ [u0,u1] ++ (cur.toList.drop (2 * i)).take (2 * (xs.length - i)):=by
      rw [List.flatten_append,List.flatten_cons,hhead,hseg,List.append_assoc]
    have hlen2 : (rows.take i ++ [u0,u1] :: rows.drop i).length = xs.length + 1:=by simp only [List.length_append,List.length_take,List.length_cons,List.length_drop,hlr];omega
    by_cases hroom : xs.length + 1 ≤ c
    · refine (ins_shift g xs.length c i W.heap.size 1 cur u0 u1 _ hlt hroom hl (by omega) hcurA hcz h1 hvA h10 h11).mono ?_
      rintro e w' ⟨rfl,rfl⟩
      obtain ⟨arr,harr⟩ : ∃ arr,arr = (cur.toList.take (2 * i) ++ [u0,u1] ++ (cur.toList.drop (2 * i)).take (2 * (xs.length - i)) ++ cur.toList.drop (2 * (xs.length + 1))).toArray:=⟨_,rfl⟩
      rw [← harr]
      have hat : ((W.alloc (.cells #[u0,u1] 69)).drew.setRow g arr).heap[g]? = some (.cells arr 69 (0,0)):=setRow_heap _ g cur arr 69 _ hcurA
      have hgr : W.grownBy ((W.alloc (.cells #[u0,u1] 69)).drew.setRow g arr) (some g):=⟨rfl,rfl,rfl,by
          show W.heap.size ≤ ((W.heap.push _).modify g _).size
          rw [Array.size_modify,Array.size_push]
          omega,fun k hk hne => by
          rw [setRow_other _ g k arr (fun e => hne (by rw [e]))]
          show (W.heap.push _)[k]? = _
          rw [Array.getElem?_push,if_neg (by omega)]⟩
      have hlarr : arr.toList.take ((xs.length + 1) * 2) = (rows.take i ++ [u0,u1] :: rows.drop i).flatten:=by
        rw [hflat,harr]
        show List.take ((xs.length + 1) * 2) (_ ++ cur.toList.drop (2 * (xs.length + 1))) = _
        have hz : (cur.toList.take (2 * i) ++ [u0,u1] ++ (cur.toList.drop (2 * i)).take (2 * (xs.length - i))).length = (xs.length + 1) * 2:=by
          rw [← hflat,flat_len _ hgood2,hlen2];omega
        rw [List.take_append_of_le_length (by omega),List.take_of_length_le (by omega)]
      have hsarr : arr.size = c * 2:=by
        rw [harr]
        simp only [List.size_toArray,List.length_append,List.length_take,List.length_drop,Array.length_toList,List.length_cons,List.length_nil]
        have : cur.size = c * 2:=hcs
        omega
      refine ⟨_,rfl,?_,?_,hgr⟩
      · refine S_inserted (fun k hk => (h0 k hk).1) hlr hf hp hokp hfresh hi ⟨fun _ _ => trivial,_,?_,good_reps hgood2⟩ hgr (.inl rfl)
        refine ⟨by rw [flat_len _ hgood2];show _ = _ * 2;omega,.inr ⟨g,c,arr,by rw [hlen2],hbg,hat,by rw [hlen2];exact hroom,hcapm,hsarr,by rw [hlen2];exact hlarr⟩⟩
      · exact ⟨hgr.os.trans HB.os,hgr.tape.trans HB.tape,hgr.output.trans HB.output,Nat.le_trans HB.size hgr.size,fun k hk => (hgr.block k (by omega) (fun e_ => by injection e_ with e_;omega)).trans (HB.block k hk)⟩
    · refine (ins_grow g xs.length c i W.heap.size 1 cur u0 u1 _ hlt hncap (by omega) hl hcurA hcz h1 hvA h10 h11).mono ?_
      rintro e w' ⟨G,arr,rfl,hG1,hG2,hat,hsarr,hlarr,hbel⟩
      have hWs : (W.alloc (.cells #[u0,u1] 69)).heap.size = W.heap.size + 1:=Array.size_push _
      have hgr : W.grownBy w' (some g):=⟨hbel.os,hbel.tape,hbel.output,by have:=hbel.size;omega,fun k hk hne => by
          rw [hbel.block k (by omega)]
          show (W.heap.push _)[k]? = _
          rw [Array.getElem?_push,if_neg (by omega)]⟩
      refine ⟨_,rfl,?_,?_,hgr⟩
      · refine S_inserted (fun k hk => (h0 k hk).1) hlr hf hp hokp hfresh hi ⟨fun _ _ => trivial,_,?_,good_reps hgood2⟩ hgr (.inr ⟨(W.alloc (.cells #[u0,u1] 69)).heap.size,rfl,Nat.le_trans (Nat.le_succ _) (Nat.le_of_eq hWs.symm)⟩)
        refine ⟨by rw [flat_len _ hgood2];show _ = _ * 2;omega,.inr ⟨(W.alloc (.cells #[u0,u1] 69)).heap.size,G,arr,by rw [hlen2],Nat.le_trans hbase (by rw [hWs];omega),hat,by rw [hlen2];exact hG1,hG2,by rw [hsarr];exact Nat.mul_comm 2 G,by rw [hflat,← hlarr];congr 1;rw [hlen2];exact Nat.mul_comm (xs.length + 1) 2⟩⟩
      · exact ⟨hgr.os.trans HB.os,hgr.tape.trans HB.tape,hgr.output.trans HB.output,Nat.le_trans HB.size hgr.size,fun k hk => (hgr.block k (by omega) (fun e_ => by injection e_ with e_;omega)).trans (HB.block k hk)⟩
  · have hie : i = xs.length:=by omega
    subst hie
    have u3:=run_underlying Try.underlying3;have u4:=run_underlying Try.underlying4;have u43:=run_underlying Try.underlying43;have u69:=run_underlying Try.underlying69
    have hz1 : ¬ ((1 : Int) = 0):=by omega
    rw [List.take_length,List.drop_length]
    have hlc : xs.length ≤ c:=by
      have:=(Kd.S_reads' HO).2.1
      exact this
    have fin : ∀ {v1 : Value} {w1 : World},Kd.S k69 69 w1 base ok v1 (xs ++ [p]) → Below base w0 w1 → W.grownBy w1 (Value.slice A xs.length c).ownBlock → ∃ v2,Ending.returned v1 = Ending.returned v2 ∧ Kd.S k69 69 w1 base ok v2 (xs ++ [p]) ∧ Below base w0 w1 ∧ W.grownBy w1 (Value.slice A xs.length c).ownBlock:=fun a b c => ⟨_,rfl,a,b,c⟩
    by_cases hcx : c = xs.length
    · subst hcx
      go_enter Try.func81,Try.ntmps81
      go_wp2_with (at_builtin;refine Kd.S_append k69 (w0:=w0) base rfl (.tmp 23) (.tmp 24) 43 69 (.agg #[.slice none 0 0,.slice none 0 0]) 48 rfl Try.underlying43 info69z rfl (by decide) (by omega) (.slice A xs.length xs.length) xs p [u0,u1] ok okp rfl rfl hp hokp hfresh HO HB hbase hl ?_)
      intro v1 w1 hN hBl hgr hat
      go_wp2
      go_ret
      exact fin hN hBl hgr
    · go_enter Try.func81,Try.ntmps81
      go_wp2_with (at_builtin;refine Kd.S_append k69 (w0:=w0) base rfl (.tmp 23) (.tmp 24) 43 69 (.agg #[.slice none 0 0,.slice none 0 0]) 48 rfl Try.underlying43 info69z rfl (by decide) (by omega) (.slice A xs.length c) xs p [u0,u1] ok okp rfl rfl hp hokp hfresh HO HB hbase hl ?_)
      intro v1 w1 hN hBl hgr hat
      go_wp2
      go_ret
      exact fin hN hBl hgr
theorem insertS_at {w0 W : World} (base : Nat) (A : Option Addr) (c : Nat) (xs : List S69) (p : S69) (u0 u1 : Value) (ok okp : Nat → Prop) (t : Int) (h0 : 0 ≤ t) (h1 : t ≤ (xs.length : Int))
    (hp : k69.M W base okp p [u0,u1]) (hokp : ∀ k,okp k → ok k ∧ some k ≠ (Value.slice A xs.length c).ownBlock) (hfresh : ∀ k,W.heap.size ≤ k → ok k)
    (HO : Kd.S k69 69 W base (fun k => ok k ∧ ¬ okp k) (.slice A xs.length c) xs) (HB : Below base w0 W) (hbase : base ≤ W.heap.size) (hl : (xs.length + 1) * 48 ≤ 140737488355328) :
    Calls Try.prog 81 #[.slice A xs.length c,.int .i64 t,.slice (some ⟨W.heap.size,0,none⟩) 1 1] (W.alloc (.cells #[u0,u1] 69)) fun e w' =>
      ∃ v1,e = .returned v1 ∧ Kd.S k69 69 w' base ok v1 (xs.take t.toNat ++ p :: xs.drop t.toNat) ∧ Below base w0 w' ∧ W.grownBy w' (Value.slice A xs.length c).ownBlock:=by
  obtain ⟨i,rfl⟩ : ∃ i : Nat,t = (i : Int):=⟨t.toNat,by omega⟩
  exact insert_S base A c xs p u0 u1 ok okp i (by omega) hp hokp hfresh HO HB hbase hl
end Go.Proofs.Ytfdbbpnmnogddaa.Pr
