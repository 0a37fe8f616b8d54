/- A list's check: the program's answer as the reference's, and the list is left as it was. No condition. -/
import Derived.Test.YtpbeklfhmhdonaaCheck
import Derived.Test.YtpbeklfhmhdonaaPx5
namespace Go.Proofs.Ytpbeklfhmhdonaa.Pure
open Go.RowKit Go.Proofs.Ytpbeklfhmhdonaa.P Go.Proofs.Ytpbeklfhmhdonaa.Num Go.Proofs.YtpbeklfhmhdonaaW.PrintWords Go.Proofs.YtpbeklfhmhdonaaW.PrintLast
set_option linter.unusedSimpArgs false
set_option linter.unusedVariables false

theorem FnExactTypeCheck : laws_FnExactTypeCheck.Pure := by
  intro a l x _ _ _ _ _
  unfold laws_FnExactTypeCheck.f
  by_cases h : (l.length : Int) > 1048576
  · exact ⟨1, by rw [if_pos h]⟩
  obtain ⟨K1, e1⟩ := toIntS_ev l (by omega)
  obtain ⟨K2, e2⟩ := sTypeCheck a l x (by omega)
  obtain ⟨K3, e3⟩ := iTypeCheck a l x
  obtain ⟨K4, e4⟩ := eqIntS_ev l l (by omega)
  dsimp only at e1 e2 e3 e4
  refine ⟨K1 + K2 + K3 + K4, ?_⟩
  rw [if_neg h, e1 _ (by omega)]
  simp only [Option.bind_some]
  rw [e2 _ (by omega), e3 _ (by omega)]
  simp only [Option.bind_some, if_true]
  rw [e4 _ (by omega)]
  simp

end Go.Proofs.Ytpbeklfhmhdonaa.Pure
