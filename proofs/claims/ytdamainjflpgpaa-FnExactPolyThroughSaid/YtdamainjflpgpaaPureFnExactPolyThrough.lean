/- The polynomial through values: the program's as the reference's, the values are left as they were, and each call's list is its own. No condition. -/
import Derived.Test.YtdamainjflpgpaaThrough
import Derived.Test.YtdamainjflpgpaaList
import Derived.Test.YtdamainjflpgpaaPx11
namespace Go.Proofs.Ytdamainjflpgpaa.Pure
open Go.RowKit Go.Proofs.Ytdamainjflpgpaa.P Go.Proofs.Ytdamainjflpgpaa.Num Go.Proofs.YtdamainjflpgpaaW.PrintWords Go.Proofs.YtdamainjflpgpaaW.PrintLast
set_option linter.unusedSimpArgs false
set_option linter.unusedVariables false

theorem FnExactPolyThrough : laws_FnExactPolyThrough.Pure := by
  intro l _ _ _
  unfold laws_FnExactPolyThrough.f
  by_cases h : (l.length : Int) > 1048576
  · exact ⟨1, by rw [if_pos h]⟩
  have hr := polyThrough_length l
  obtain ⟨r, er⟩ : ∃ r, polyThrough l = r := ⟨_, rfl⟩
  rw [er] at hr
  obtain ⟨K1, e1⟩ := toIntS_ev l (by omega)
  obtain ⟨K2, e2⟩ := sPolyThrough l (by omega)
  obtain ⟨K3, e3⟩ := eqIntS_ev r r (by omega)
  obtain ⟨K4, e4⟩ := eqIntS_ev l l (by omega)
  obtain ⟨K5, e5⟩ := markIntS_ev l 1 (by omega) (by omega)
  obtain ⟨K6, e6⟩ := markIntS_ev r 1 (by omega) (by omega)
  obtain ⟨K7, e7⟩ := heldIntS_ev r.length 1 (by omega) (by omega)
  dsimp only at e1 e2 e3 e4 e5 e6 e7
  rw [er] at e2
  refine ⟨K1 + K2 + K3 + K4 + K5 + K6 + K7 + 3, ?_⟩
  rw [if_neg h, e1 _ (by omega)]
  simp only [Option.bind_some]
  rw [e2 _ (by omega), iPolyThrough, er]
  simp only [Option.bind_some]
  rw [e3 _ (by omega)]
  simp only [Option.bind_some, decide_true, if_true]
  rw [e4 _ (by omega)]
  simp only [Option.bind_some, decide_true, if_true]
  rw [e5 _ (by omega)]
  simp only [Option.bind_some]
  rw [if_neg (by omega)]
  simp only [Bool.not_true]
  rw [show K1 + K2 + K3 + K4 + K5 + K6 + K7 + 3 = (K1 + K2 + K3 + K4 + K5 + K6 + K7 + 2) + 1 by omega, laws_FnExactPolyThrough.j0, if_neg (by simp), e6 _ (by omega)]
  simp only [Option.bind_some]
  rw [e7 _ (by omega)]
  simp only [Option.bind_some]
  rw [if_neg (by omega)]
  simp only [if_true]
  rw [e1 _ (by omega)]
  simp only [Option.bind_some]
  rw [iPolyThrough, er]
  simp only [Option.bind_some]
  rw [e3 _ (by omega)]
  simp only [Option.bind_some, decide_true, if_true]
  rw [if_neg (by omega)]

end Go.Proofs.Ytdamainjflpgpaa.Pure
