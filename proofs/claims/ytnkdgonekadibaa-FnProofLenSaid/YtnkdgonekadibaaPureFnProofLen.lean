/- A drawn kind's proof length: as said, at most 20. No condition. -/
import Derived.Test.YtnkdgonekadibaaTDraw
import Derived.Test.YtnkdgonekadibaaPx14
namespace Go.Proofs.Ytnkdgonekadibaa.Pure
open Go.RowKit Go.Proofs.Ytnkdgonekadibaa.P Go.Proofs.Ytnkdgonekadibaa.Num Go.Proofs.YtnkdgonekadibaaW.PrintWords Go.Proofs.YtnkdgonekadibaaW.PrintLast
set_option linter.unusedSimpArgs false
set_option linter.unusedVariables false

theorem FnProofLen : laws_FnProofLen.Pure := by
  intro l _ _ hb
  unfold laws_FnProofLen.f
  by_cases h : (l.length : Int) > 1048576
  · exact ⟨1, by rw [if_pos h]⟩
  obtain ⟨a, e, a1, a2⟩ := drawProofLen_ev (bytes_of hb)
  refine ⟨2, ?_⟩
  rw [if_neg h, e _ (by omega)]
  simp only [Option.bind_some, impl_TypeLen.f]
  rw [sProofLen, iProofLen]
  simp only [Option.bind_some, if_true]
  have hl := lenI_rng a
  rw [w64 (n := 3 * lenI a) (by omega), w64 (by omega)]
  obtain rfl | rfl | rfl | rfl | rfl | rfl : a = -1 ∨ a = 0 ∨ a = 1 ∨ a = 2 ∨ a = 3 ∨ a = 4 := by omega
  all_goals decide

end Go.Proofs.Ytnkdgonekadibaa.Pure
