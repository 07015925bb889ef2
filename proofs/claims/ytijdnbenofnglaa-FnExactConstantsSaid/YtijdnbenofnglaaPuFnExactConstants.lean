/- The plain statement of the law FnExactConstants: for all arguments in range it answers true; no further condition. -/
import Derived.Test.YtijdnbenofnglaaPrx0
import Derived.Test.YtijdnbenofnglaaUB
import Derived.Test.YtijdnbenofnglaaWFFnExactConstants
namespace Go.Proofs.Ytijdnbenofnglaa.PuFnExactConstants
open Go.RowKit Go.Proofs.Ytijdnbenofnglaa.Pr Go.Proofs.YtijdnbenofnglaaW.PrintWords Go.Proofs.YtijdnbenofnglaaW.PrintLast Go.Proofs.YtijdnbenofnglaaW.PrintMore Go.Proofs.Ytijdnbenofnglaa.U Go.Proofs.Ytijdnbenofnglaa.WFFnExactConstants
set_option linter.unusedVariables false
set_option linter.unusedSimpArgs false

theorem pure : Pure := rfl

end Go.Proofs.Ytijdnbenofnglaa.PuFnExactConstants
