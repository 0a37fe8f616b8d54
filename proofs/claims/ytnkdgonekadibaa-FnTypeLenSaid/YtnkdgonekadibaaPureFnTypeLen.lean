/- A drawn kind's length: as said, and 0 just where it is no kind. No condition. -/
import Derived.Test.YtnkdgonekadibaaTDraw
import Derived.Test.YtnkdgonekadibaaPx14
namespace Go.Proofs.Ytnkdgonekadibaa.Pure
open Go.RowKit Go.Proofs.Ytnkdgonekadibaa.P Go.Proofs.Ytnkdgonekadibaa.Num Go.Proofs.YtnkdgonekadibaaW.PrintWords Go.Proofs.YtnkdgonekadibaaW.PrintLast
set_option linter.unusedSimpArgs false
set_option linter.unusedVariables false

theorem FnTypeLen : laws_FnTypeLen.Pure := by
  intro l _ _ hb
  unfold laws_FnTypeLen.f
  by_cases h : (l.length : Int) > 1048576
  · exact ⟨1, by rw [if_pos h]⟩
  obtain ⟨a, e, a1, a2⟩ := drawTypeLen_ev (bytes_of hb)
  refine ⟨2, ?_⟩
  rw [if_neg h, e _ (by omega)]
  simp only [Option.bind_some, impl_TypeLen.f]
  rw [sTypeLen]
  simp only [Option.bind_some, if_true, laws_FnTypeLen.j0, impl_TypeMake.f]
  rw [sTypeLen]
  obtain rfl | rfl | rfl | rfl | rfl | rfl : a = -1 ∨ a = 0 ∨ a = 1 ∨ a = 2 ∨ a = 3 ∨ a = 4 := by omega
  all_goals decide

end Go.Proofs.Ytnkdgonekadibaa.Pure
