/- Plain lemmas over the printed functions, for the laws' plain statements; each theorem states its own conditions. -/
import Derived.Test.YtjapdjkckhcelaaPrx0
import Derived.Test.YtjapdjkckhcelaaUB
import Derived.Test.YtjapdjkckhcelaaUSTR
namespace Go.Proofs.Ytjapdjkckhcelaa.U
open Go.RowKit Go.Proofs.Ytjapdjkckhcelaa.Pr Go.Proofs.YtjapdjkckhcelaaW.PrintWords Go.Proofs.YtjapdjkckhcelaaW.PrintLast Go.Proofs.YtjapdjkckhcelaaW.PrintMore
set_option linter.unusedVariables false
set_option linter.unusedSimpArgs false

/-- The value under a name. -/
def ofL (n : ByteArray) : List S104 → ByteArray
  | [] => ⟨#[]⟩
  | x :: xs => if Y x.f0 = Y n then x.f1 else ofL n xs

end Go.Proofs.Ytjapdjkckhcelaa.U
