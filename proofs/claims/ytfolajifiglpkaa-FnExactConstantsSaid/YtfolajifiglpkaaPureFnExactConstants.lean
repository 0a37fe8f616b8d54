/- The program's constants are the ones that the document names. No condition. -/

import Derived.Test.YtfolajifiglpkaaField
import Derived.Test.YtfolajifiglpkaaPx1
namespace Go.Proofs.Ytfolajifiglpkaa.Pure
open Go.RowKit Go.Proofs.Ytfolajifiglpkaa.P Go.Proofs.Ytfolajifiglpkaa.Num Go.Proofs.YtfolajifiglpkaaW.PrintWords Go.Proofs.YtfolajifiglpkaaW.PrintLast
set_option linter.unusedSimpArgs false
set_option linter.unusedVariables false

theorem FnExactConstants : laws_FnExactConstants.Pure := rfl

end Go.Proofs.Ytfolajifiglpkaa.Pure
