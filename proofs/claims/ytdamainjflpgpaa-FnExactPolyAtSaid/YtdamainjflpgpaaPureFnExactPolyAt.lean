/- The program's PolyAt answers as the reference, at every list and place; and the list reads as before. No condition. -/
import Derived.Test.YtdamainjflpgpaaPolyAt
import Derived.Test.YtdamainjflpgpaaPx3
namespace Go.Proofs.Ytdamainjflpgpaa.Pure
open Go.RowKit Go.Proofs.Ytdamainjflpgpaa.P Go.Proofs.Ytdamainjflpgpaa.Num Go.Proofs.YtdamainjflpgpaaW.PrintWords Go.Proofs.YtdamainjflpgpaaW.PrintLast
set_option linter.unusedSimpArgs false
set_option linter.unusedVariables false

theorem FnExactPolyAt : laws_FnExactPolyAt.Pure := by
  intro l x _ _ _ _
  unfold laws_FnExactPolyAt.f
  by_cases h : (l.length : Int) > 1048576
  · exact ⟨0, by rw [if_pos h]⟩
  obtain ⟨K1, h1⟩ := toIntS_ev l (by omega)
  obtain ⟨K2, h2⟩ := sPolyAt l x (by omega)
  obtain ⟨K3, h3⟩ := eqIntS_ev l l (by omega)
  dsimp only at h1 h2 h3
  refine ⟨K1 + K2 + K3, ?_⟩
  rw [if_neg h, h1 _ (by omega)]
  simp only [Option.bind_some]
  rw [h2 _ (by omega), iPolyAt]
  simp only [Option.bind_some, if_true]
  rw [h3 _ (by omega)]
  simp

end Go.Proofs.Ytdamainjflpgpaa.Pure
