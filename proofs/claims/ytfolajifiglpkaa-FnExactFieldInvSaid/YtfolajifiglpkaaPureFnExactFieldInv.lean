/- The program's FieldInv answers as the reference, at every number. No condition. -/
import Derived.Test.YtfolajifiglpkaaMod
import Derived.Test.YtfolajifiglpkaaPx2
namespace Go.Proofs.Ytfolajifiglpkaa.Pure
open Go.RowKit Go.Proofs.Ytfolajifiglpkaa.P Go.Proofs.Ytfolajifiglpkaa.Num Go.Proofs.YtfolajifiglpkaaW.PrintWords Go.Proofs.YtfolajifiglpkaaW.PrintLast
set_option linter.unusedSimpArgs false
set_option linter.unusedVariables false

theorem FnExactFieldInv : laws_FnExactFieldInv.Pure := by
  intro a _
  refine ⟨40, ?_⟩
  unfold laws_FnExactFieldInv.f
  rw [sFieldInv a 40 (by omega), iFieldInv a 40 (by omega)]
  simp

end Go.Proofs.Ytfolajifiglpkaa.Pure
