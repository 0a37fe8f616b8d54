/- The program's FieldMul answers as the reference, at every two numbers. No condition. -/
import Derived.Test.YtfolajifiglpkaaField
import Derived.Test.YtfolajifiglpkaaPx1
namespace Go.Proofs.Ytfolajifiglpkaa.Pure
open Go.RowKit Go.Proofs.Ytfolajifiglpkaa.P Go.Proofs.Ytfolajifiglpkaa.Num Go.Proofs.YtfolajifiglpkaaW.PrintWords Go.Proofs.YtfolajifiglpkaaW.PrintLast
set_option linter.unusedSimpArgs false
set_option linter.unusedVariables false

theorem FnExactFieldMul : laws_FnExactFieldMul.Pure := by
  intro a b _ _
  simp [laws_FnExactFieldMul.f, sFieldMul, iFieldMul]

end Go.Proofs.Ytfolajifiglpkaa.Pure
