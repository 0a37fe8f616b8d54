/- The program's FieldDif answers as the reference, at every two numbers. No condition. -/
import Derived.Test.YtfolajifiglpkaaField
import Derived.Test.YtfolajifiglpkaaPx1
namespace Go.Proofs.Ytfolajifiglpkaa.Pure
open Go.RowKit Go.Proofs.Ytfolajifiglpkaa.P Go.Proofs.Ytfolajifiglpkaa.Num Go.Proofs.YtfolajifiglpkaaW.PrintWords Go.Proofs.YtfolajifiglpkaaW.PrintLast
set_option linter.unusedSimpArgs false
set_option linter.unusedVariables false

theorem FnExactFieldDif : laws_FnExactFieldDif.Pure := by
  intro a b _ _
  simp [laws_FnExactFieldDif.f, sFieldDif, iFieldDif]

end Go.Proofs.Ytfolajifiglpkaa.Pure
