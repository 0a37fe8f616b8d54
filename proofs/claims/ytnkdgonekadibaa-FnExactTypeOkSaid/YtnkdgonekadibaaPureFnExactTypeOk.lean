/- Which lists are a kind's: the program's answer as the reference's, and the list is left as it was. No condition. -/
import Derived.Test.YtnkdgonekadibaaType
import Derived.Test.YtnkdgonekadibaaPx7
namespace Go.Proofs.Ytnkdgonekadibaa.Pure
open Go.RowKit Go.Proofs.Ytnkdgonekadibaa.P Go.Proofs.Ytnkdgonekadibaa.Num Go.Proofs.YtnkdgonekadibaaW.PrintWords Go.Proofs.YtnkdgonekadibaaW.PrintLast
set_option linter.unusedSimpArgs false
set_option linter.unusedVariables false

theorem FnExactTypeOk : laws_FnExactTypeOk.Pure := by
  intro a l _ _ _ _
  unfold laws_FnExactTypeOk.f
  by_cases h : (l.length : Int) > 1048576
  · exact ⟨1, by rw [if_pos h]⟩
  obtain ⟨K1, e1⟩ := toIntS_ev l (by omega)
  obtain ⟨K2, e2⟩ := sTypeOk a l (by omega)
  obtain ⟨K3, e3⟩ := iTypeOk a l
  obtain ⟨K4, e4⟩ := eqIntS_ev l l (by omega)
  dsimp only at e1 e2 e3 e4
  refine ⟨K1 + K2 + K3 + K4, ?_⟩
  rw [if_neg h, e1 _ (by omega)]
  simp only [Option.bind_some]
  rw [e2 _ (by omega), e3 _ (by omega)]
  simp only [Option.bind_some, bne_self_eq_false, Bool.false_eq_true, if_false]
  rw [e4 _ (by omega)]
  simp

end Go.Proofs.Ytnkdgonekadibaa.Pure
