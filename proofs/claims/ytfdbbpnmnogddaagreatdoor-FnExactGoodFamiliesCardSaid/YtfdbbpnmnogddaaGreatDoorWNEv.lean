/- Words for the printed proofs of this seat: those of the kit's print that its texts name; each theorem states its own conditions. -/
import Derived.Test.YtfdbbpnmnogddaaGreatDoorWN
namespace Go.Proofs.YtfdbbpnmnogddaaGreatDoorW.PrintWords
open Go.RowKit
namespace Kd
section
variable {α:Type} {d:Kd α} {e base n cap g:Nat} {ok ok' okp:Nat->Prop} {w w1 W:World} {v v1:Value} {xs ys:List α}
end
section
variable {P:Program} {ops:Array Oper} {rest:List Oper} {o:Oper} {a:Act} {Q:Exit->Act->World->Prop} {Kc:Act->World->Prop} {α:Type}
end
end Kd
end Go.Proofs.YtfdbbpnmnogddaaGreatDoorW.PrintWords
