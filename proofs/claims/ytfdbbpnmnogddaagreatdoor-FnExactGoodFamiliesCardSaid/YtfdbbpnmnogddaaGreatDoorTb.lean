/- The program's tables of texts, as rows that are read; each theorem states its own conditions. -/
import Derived.Test.YtfdbbpnmnogddaaGreatDoorWMore
import Derived.Test.YtfdbbpnmnogddaaGreatDoorProg
import Derived.Lib.AppendIntMem
import Derived.WalkSmall
namespace Go.Proofs.YtfdbbpnmnogddaaGreatDoor.Pr
open Go.RowKit Go.Proofs.YtfdbbpnmnogddaaGreatDoorW.PrintWords Go.Proofs.YtfdbbpnmnogddaaGreatDoorW.PrintLast Go.Proofs.YtfdbbpnmnogddaaGreatDoorW.PrintMore
structure Tg1 (w:World):Prop where
  c:∃ te pe,w.cell? ⟨1,0,none⟩=some (.iface te pe)
theorem Tg1.below {w w':World}(h:Tg1 w)(hb:Below w.heap.size w w'):Tg1 w':=⟨by obtain ⟨te,pe,e⟩:=h.c;exact ⟨te,pe,(hb.cell (World.block_lt_of_cell? _ _ e)).trans e⟩⟩
structure Tg2 (w:World):Prop where
  c:∃ te pe,w.cell? ⟨2,0,none⟩=some (.iface te pe)
theorem Tg2.below {w w':World}(h:Tg2 w)(hb:Below w.heap.size w w'):Tg2 w':=⟨by obtain ⟨te,pe,e⟩:=h.c;exact ⟨te,pe,(hb.cell (World.block_lt_of_cell? _ _ e)).trans e⟩⟩
structure Tg3 (w:World):Prop where
  c:Lib.TabIs Tryz.prog w "internal/strconv.uint64pow10" .u64 Lib.pow10Tab
theorem Tg3.below {w w':World}(h:Tg3 w)(hb:Below w.heap.size w w'):Tg3 w' :=
  have hg:Tryz.prog.globalNamed "internal/strconv.uint64pow10" = some 3:=by kernel_rfl
  ⟨var?_below hb hg (World.block_lt_of_cell? w ⟨3,0,none⟩ (Lib.TabIs.cell h.c hg 0 (by decide))) h.c⟩
theorem tab_row {w:World}{b:Nat}{l:List ByteArray}(hn:l.length<=9223372036854775807)(h:∀ (i:Nat) (s:ByteArray),l[i]? = some s->w.cell? ⟨b,i,none⟩=some (.string s)):Kd.C Kd.string w (some ⟨b,0,none⟩) l.length l :=
  ⟨rfl,hn,fun _=>⟨_,rfl,fun j p hj=>⟨[.string p],rfl,rfl,fun i u hu=>by
    have hi:i=0:=by have:=(List.getElem?_eq_some_iff.1 hu).1;simp at this;exact this
    subst hi
    have e:u = .string p:=by simpa using hu.symm
    subst e
    have:=h j p hj
    by_cases hj:j=0 <;> simpa [Kd.string,Kd.scalar,Addr.add,hj] using this⟩⟩⟩
end Go.Proofs.YtfdbbpnmnogddaaGreatDoor.Pr
