/- The program's RandBoth answers as the reference, at every three numbers. No condition. -/
import Derived.Test.YtpdkdckkhjancaaRand
import Derived.Test.YtpdkdckkhjancaaPx2
namespace Go.Proofs.Ytpdkdckkhjancaa.Pure
open Go.RowKit Go.Proofs.Ytpdkdckkhjancaa.P Go.Proofs.Ytpdkdckkhjancaa.Num Go.Proofs.YtpdkdckkhjancaaW.PrintWords Go.Proofs.YtpdkdckkhjancaaW.PrintLast
set_option linter.unusedSimpArgs false
set_option linter.unusedVariables false

theorem FnExactRandBoth : laws_FnExactRandBoth.Pure := by
  intro a b c _ _ _
  refine ⟨1, ?_⟩
  simp [laws_FnExactRandBoth.f, sRandBoth, iRandBoth]

end Go.Proofs.Ytpdkdckkhjancaa.Pure
