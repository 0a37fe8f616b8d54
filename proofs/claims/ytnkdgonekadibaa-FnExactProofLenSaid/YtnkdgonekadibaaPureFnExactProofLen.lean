/- The lengths of the proofs: the program's as the reference's. No condition. -/
import Derived.Test.YtnkdgonekadibaaType
import Derived.Test.YtnkdgonekadibaaPx1
namespace Go.Proofs.Ytnkdgonekadibaa.Pure
open Go.RowKit Go.Proofs.Ytnkdgonekadibaa.P Go.Proofs.Ytnkdgonekadibaa.Num Go.Proofs.YtnkdgonekadibaaW.PrintWords Go.Proofs.YtnkdgonekadibaaW.PrintLast
set_option linter.unusedSimpArgs false
set_option linter.unusedVariables false

theorem FnExactProofLen : laws_FnExactProofLen.Pure := by
  intro a _
  unfold laws_FnExactProofLen.f
  rw [sProofLen, iProofLen]; simp

end Go.Proofs.Ytnkdgonekadibaa.Pure
