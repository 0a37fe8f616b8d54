/- The program's FieldOk answers as the reference, at every number. No condition. -/
import Derived.Test.YtfolajifiglpkaaField
import Derived.Test.YtfolajifiglpkaaPx1
namespace Go.Proofs.Ytfolajifiglpkaa.Pure
open Go.RowKit Go.Proofs.Ytfolajifiglpkaa.P Go.Proofs.Ytfolajifiglpkaa.Num Go.Proofs.YtfolajifiglpkaaW.PrintWords Go.Proofs.YtfolajifiglpkaaW.PrintLast
set_option linter.unusedSimpArgs false
set_option linter.unusedVariables false

theorem FnExactFieldOk : laws_FnExactFieldOk.Pure := by
  intro a _
  simp [laws_FnExactFieldOk.f, sFieldOk, iFieldOk]

end Go.Proofs.Ytfolajifiglpkaa.Pure
