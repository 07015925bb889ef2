/- A string's "greater", "at least" and "at most" as the model's own order of byte strings; an equation of the model's operator, no further condition. -/
import Derived.Tactics
import Derived.Laws.Strings
namespace Go.Proofs.YtfdbbpnmnogddaaGreatDoor.Gt
theorem bytesLess_swap:∀ x y:List UInt8,(!(Op.bytesLess x y||x==y))=Op.bytesLess y x
  | [],[]=>by simp [Op.bytesLess]
  | [],_::_=>by simp [Op.bytesLess]
  | _::_,[]=>by simp [Op.bytesLess]
  | a::x,b::y=>by
    have ih:=bytesLess_swap x y
    simp only [Op.bytesLess]
    by_cases h:a=b
    · subst h
      simp [← ih,UInt8.lt_irrefl]
    · have h2:¬ b=a:=fun e=>h e.symm
      rcases Nat.lt_or_ge a.toNat b.toNat with h3|h3
      · have h4:a<b:=h3
        have h5:¬ b<a:=fun h6=>by have:b.toNat<a.toNat:=h6;omega
        simp [h4,h5,h2]
      · have h6:a.toNat≠b.toNat:=fun e=>h (UInt8.toNat_inj.mp e)
        have h4:¬ a<b:=fun h7=>by have:a.toNat<b.toNat:=h7;omega
        have h5:b<a:=by show b.toNat<a.toNat;omega
        simp [h4,h5,h]
@[go_sem] theorem binOp_string_gtr_swap (t:TypeId) (a b:ByteArray):binOp .gtr t (.string a) (.string b)=pure (.bool (Op.bytesLess b.toList a.toList)):=by
  have h:=bytesLess_swap a.toList b.toList
  simp [binOp,Op.stringOp,← h]
@[go_sem] theorem binOp_string_geq_swap (t:TypeId) (a b:ByteArray):binOp .geq t (.string a) (.string b)=pure (.bool (!(Op.bytesLess a.toList b.toList))):=by simp [binOp,Op.stringOp]
@[go_sem] theorem binOp_string_leq_swap (t:TypeId) (a b:ByteArray):binOp .leq t (.string a) (.string b)=pure (.bool (!(Op.bytesLess b.toList a.toList))):=by
  have h:=bytesLess_swap a.toList b.toList
  simp [binOp,Op.stringOp,← h]
theorem nil_bne (l:List UInt8):(l != []) = !l.isEmpty:=by cases l <;> rfl
end Go.Proofs.YtfdbbpnmnogddaaGreatDoor.Gt
