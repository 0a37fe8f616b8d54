/- The program's PolyOk answers as the reference, at every list; and the list reads as before. No condition. -/
import Derived.Test.YtdamainjflpgpaaPolyOk
import Derived.Test.YtdamainjflpgpaaPx2
namespace Go.Proofs.Ytdamainjflpgpaa.Pure
open Go.RowKit Go.Proofs.Ytdamainjflpgpaa.P Go.Proofs.Ytdamainjflpgpaa.Num Go.Proofs.YtdamainjflpgpaaW.PrintWords Go.Proofs.YtdamainjflpgpaaW.PrintLast
set_option linter.unusedSimpArgs false
set_option linter.unusedVariables false

theorem FnExactPolyOk : laws_FnExactPolyOk.Pure := by
  intro l _ _ _
  unfold laws_FnExactPolyOk.f
  by_cases h : (l.length : Int) > 1048576
  · exact ⟨0, by rw [if_pos h]⟩
  obtain ⟨K1, h1⟩ := toIntS_ev l (by omega)
  obtain ⟨K2, h2⟩ := sPolyOk l (by omega)
  obtain ⟨K3, h3⟩ := eqIntS_ev l l (by omega)
  dsimp only at h1 h2 h3
  refine ⟨K1 + K2 + K3, ?_⟩
  rw [if_neg h, h1 _ (by omega)]
  simp only [Option.bind_some]
  rw [h2 _ (by omega), iPolyOk]
  simp only [Option.bind_some, bne_self_eq_false, Bool.false_eq_true, if_false]
  rw [h3 _ (by omega)]
  simp

end Go.Proofs.Ytdamainjflpgpaa.Pure
