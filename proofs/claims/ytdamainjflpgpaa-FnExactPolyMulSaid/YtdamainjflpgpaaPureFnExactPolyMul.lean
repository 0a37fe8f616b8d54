/- The program's PolyMul answers as the reference, at every two lists; the lists read as before; and what it hands back is nobody else's. No condition. -/
import Derived.Test.YtdamainjflpgpaaPolyMul
import Derived.Test.YtdamainjflpgpaaPx8
namespace Go.Proofs.Ytdamainjflpgpaa.Pure
open Go.RowKit Go.Proofs.Ytdamainjflpgpaa.P Go.Proofs.Ytdamainjflpgpaa.Num Go.Proofs.YtdamainjflpgpaaW.PrintWords Go.Proofs.YtdamainjflpgpaaW.PrintLast
set_option linter.unusedSimpArgs false
set_option linter.unusedVariables false

theorem FnExactPolyMul : laws_FnExactPolyMul.Pure := by
  intro a b _ _ _ _ _ _
  unfold laws_FnExactPolyMul.f
  by_cases h : (a.length : Int) > 1048576
  · exact ⟨0, by rw [if_pos h]⟩
  by_cases h' : (b.length : Int) > 1048576
  · exact ⟨0, by rw [if_neg h, if_pos h']⟩
  obtain ⟨r, ok, e⟩ : ∃ r ok, polyMul a b = (r, ok) := ⟨_, _, rfl⟩
  have hr : r.length ≤ 9 := by have := polyMul_fst_len a b; rw [e] at this; exact this
  obtain ⟨K1, h1⟩ := toIntS_ev a (by omega)
  obtain ⟨K2, h2⟩ := toIntS_ev b (by omega)
  obtain ⟨K3, h3⟩ := sPolyMul a b (by omega) (by omega)
  obtain ⟨K4, h4⟩ := iPolyMul a b
  obtain ⟨K5, h5⟩ := eqIntS_ev a a (by omega)
  obtain ⟨K6, h6⟩ := eqIntS_ev b b (by omega)
  obtain ⟨K7, h7⟩ := eqIntS_ev r r (by omega)
  obtain ⟨K8, h8⟩ := markIntS_ev a 1 (by omega) (by omega)
  obtain ⟨K9, h9⟩ := markIntS_ev b (1 + (a.length : Int)) (by omega) (by omega)
  obtain ⟨K10, h10⟩ := markIntS_ev r 1 (by omega) (by omega)
  obtain ⟨K11, h11⟩ := heldIntS_ev r.length 1 (by omega) (by omega)
  dsimp only at h1 h2 h3 h4 h5 h6 h7 h8 h9 h10 h11
  rw [e] at h3 h4
  refine ⟨K1 + K2 + K3 + K4 + K5 + K6 + K7 + K8 + K9 + K10 + K11 + 5, ?_⟩
  rw [if_neg h, if_neg h', h1 _ (by omega), h2 _ (by omega)]
  simp only [Option.bind_some]
  rw [h3 _ (by omega), h4 _ (by omega)]
  simp only [Option.bind_some]
  rw [h7 _ (by omega)]
  simp only [Option.bind_some, decide_true, if_true, bne_self_eq_false, laws_FnExactPolyMul.j0, Bool.false_eq_true, if_false]
  rw [h1 _ (by omega)]
  simp only [Option.bind_some]
  rw [h5 _ (by omega)]
  simp only [Option.bind_some, decide_true, if_true]
  rw [h2 _ (by omega)]
  simp only [Option.bind_some]
  rw [h6 _ (by omega)]
  simp only [Option.bind_some, decide_true, if_true]
  rw [h8 _ (by omega)]
  simp only [Option.bind_some]
  rw [h9 _ (by omega)]
  simp only [Option.bind_some]
  rw [if_neg (by omega), h7 _ (by omega)]
  simp only [Option.bind_some, decide_true, if_true, bne_self_eq_false, laws_FnExactPolyMul.j1, Bool.false_eq_true, if_false]
  rw [h10 _ (by omega)]
  simp only [Option.bind_some]
  rw [h11 _ (by omega)]
  simp only [Option.bind_some]
  rw [if_neg (by omega), if_pos trivial, h1 _ (by omega), h2 _ (by omega)]
  simp only [Option.bind_some]
  rw [h4 _ (by omega)]
  simp only [Option.bind_some]
  rw [h7 _ (by omega)]
  simp only [Option.bind_some, decide_true, if_true, bne_self_eq_false, laws_FnExactPolyMul.j2, Bool.false_eq_true, if_false]
  rw [h11 _ (by omega)]
  simp only [Option.bind_some]
  rw [if_neg (by omega), if_pos trivial]

end Go.Proofs.Ytdamainjflpgpaa.Pure
