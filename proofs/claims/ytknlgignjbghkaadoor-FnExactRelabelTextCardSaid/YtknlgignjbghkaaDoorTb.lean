/- The program's tables of texts, as rows that are read; each theorem states its own conditions. -/
import Derived.Test.YtknlgignjbghkaaDoorWMore
import Derived.Test.YtknlgignjbghkaaDoorProg
import Derived.Lib.AppendIntMem
import Derived.WalkSmall
namespace Go.Proofs.YtknlgignjbghkaaDoor.Pr
open Go.RowKit Go.Proofs.YtknlgignjbghkaaDoorW.PrintWords Go.Proofs.YtknlgignjbghkaaDoorW.PrintLast Go.Proofs.YtknlgignjbghkaaDoorW.PrintMore
def lT0 : List ByteArray := [⟨#[]⟩, ⟨#[107, 101, 101, 112]⟩, ⟨#[100, 114, 111, 112]⟩, ⟨#[115, 101, 116]⟩, ⟨#[109, 111, 100]⟩, ⟨#[109, 97, 112]⟩, ⟨#[107, 101, 101, 112, 110, 97, 109, 101, 115]⟩, ⟨#[100, 114, 111, 112, 110, 97, 109, 101, 115]⟩, ⟨#[108, 111, 119, 101, 114]⟩]
def lT1 : List ByteArray := [⟨#[]⟩, ⟨#[61]⟩, ⟨#[33, 61]⟩, ⟨#[61, 126]⟩, ⟨#[33, 126]⟩]
/-- The table reads as the program's text lays it. -/
structure Tg0 (w : World) : Prop where
  c : Kd.C Kd.string w (some ⟨0, 0, none⟩) 9 lT0
theorem Tg0.below {w w' : World} (h : Tg0 w) (hb : Below w.heap.size w w') : Tg0 w' := ⟨Kd.C_below h.c hb⟩
/-- The table reads as the program's text lays it. -/
structure Tg1 (w : World) : Prop where
  c : Kd.C Kd.string w (some ⟨1, 0, none⟩) 5 lT1
theorem Tg1.below {w w' : World} (h : Tg1 w) (hb : Below w.heap.size w w') : Tg1 w' := ⟨Kd.C_below h.c hb⟩
/-- The table reads as the program's text lays it. -/
structure Tg3 (w : World) : Prop where
  c : Lib.TabIs Tryd.prog w "internal/strconv.uint64pow10" .u64 Lib.pow10Tab
theorem Tg3.below {w w' : World} (h : Tg3 w) (hb : Below w.heap.size w w') : Tg3 w' :=
  have hg : Tryd.prog.globalNamed "internal/strconv.uint64pow10" = some 3 := by kernel_rfl
  ⟨var?_below hb hg (World.block_lt_of_cell? w ⟨3, 0, none⟩ (Lib.TabIs.cell h.c hg 0 (by decide))) h.c⟩
theorem tab_row {w : World} {b : Nat} {l : List ByteArray} (hn : l.length ≤ 9223372036854775807) (h : ∀ (i : Nat) (s : ByteArray), l[i]? = some s → w.cell? ⟨b, i, none⟩ = some (.string s)) : Kd.C Kd.string w (some ⟨b, 0, none⟩) l.length l :=
  ⟨rfl, hn, fun _ => ⟨_, rfl, fun j p hj => ⟨[.string p], rfl, rfl, fun i u hu => by
    have hi : i = 0 := by have := (List.getElem?_eq_some_iff.1 hu).1; simp at this; exact this
    subst hi
    have e : u = .string p := by simpa using hu.symm
    subst e
    have := h j p hj
    by_cases hj : j = 0 <;> simpa [Kd.string, Kd.scalar, Addr.add, hj] using this⟩⟩⟩
end Go.Proofs.YtknlgignjbghkaaDoor.Pr
