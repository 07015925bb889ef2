/- The program's tables of texts, as rows that are read; each theorem states its own conditions. -/
import Derived.Test.YtlibcibpflfboaaDoorWMore
namespace Go.Proofs.YtlibcibpflfboaaDoor.Pr
open Go.RowKit Go.Proofs.YtlibcibpflfboaaDoorW.PrintWords Go.Proofs.YtlibcibpflfboaaDoorW.PrintLast Go.Proofs.YtlibcibpflfboaaDoorW.PrintMore
def lT0 : List ByteArray := [⟨#[]⟩, ⟨#[61]⟩, ⟨#[33, 61]⟩, ⟨#[61, 126]⟩, ⟨#[33, 126]⟩]
/-- The table reads as the program's text lays it. -/
structure Tg0 (w : World) : Prop where
  c : Kd.C Kd.string w (some ⟨0, 0, none⟩) 5 lT0
theorem Tg0.below {w w' : World} (h : Tg0 w) (hb : Below w.heap.size w w') : Tg0 w' := ⟨Kd.C_below h.c hb⟩
theorem tab_row {w : World} {b : Nat} {l : List ByteArray} (hn : l.length ≤ 9223372036854775807) (h : ∀ (i : Nat) (s : ByteArray), l[i]? = some s → w.cell? ⟨b, i, none⟩ = some (.string s)) : Kd.C Kd.string w (some ⟨b, 0, none⟩) l.length l :=
  ⟨rfl, hn, fun _ => ⟨_, rfl, fun j p hj => ⟨[.string p], rfl, rfl, fun i u hu => by
    have hi : i = 0 := by have := (List.getElem?_eq_some_iff.1 hu).1; simp at this; exact this
    subst hi
    have e : u = .string p := by simpa using hu.symm
    subst e
    have := h j p hj
    by_cases hj : j = 0 <;> simpa [Kd.string, Kd.scalar, Addr.add, hj] using this⟩⟩⟩
end Go.Proofs.YtlibcibpflfboaaDoor.Pr
