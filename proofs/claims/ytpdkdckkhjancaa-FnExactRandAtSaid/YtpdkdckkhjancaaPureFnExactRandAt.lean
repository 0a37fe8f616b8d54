/- The program's RandAt answers as the reference, at every two numbers. No condition. -/
import Derived.Test.YtpdkdckkhjancaaRand
import Derived.Test.YtpdkdckkhjancaaPx1
namespace Go.Proofs.Ytpdkdckkhjancaa.Pure
open Go.RowKit Go.Proofs.Ytpdkdckkhjancaa.P Go.Proofs.Ytpdkdckkhjancaa.Num Go.Proofs.YtpdkdckkhjancaaW.PrintWords Go.Proofs.YtpdkdckkhjancaaW.PrintLast
set_option linter.unusedSimpArgs false
set_option linter.unusedVariables false

theorem FnExactRandAt : laws_FnExactRandAt.Pure := by
  intro a b _ _
  simp [laws_FnExactRandAt.f, sRandAt, iRandAt]

end Go.Proofs.Ytpdkdckkhjancaa.Pure
