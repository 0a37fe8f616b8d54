/- A proof's list, cut apart: the program's answer as the reference's, the list is left as it was, and each call's lists are its own. No condition. -/
import Derived.Test.YtnkdgonekadibaaCut
import Derived.Test.YtnkdgonekadibaaPx12
namespace Go.Proofs.Ytnkdgonekadibaa.Pure
open Go.RowKit Go.Proofs.Ytnkdgonekadibaa.P Go.Proofs.Ytnkdgonekadibaa.Num Go.Proofs.YtnkdgonekadibaaW.PrintWords Go.Proofs.YtnkdgonekadibaaW.PrintLast
set_option linter.unusedSimpArgs false
set_option linter.unusedVariables false

theorem FnExactProofCut : laws_FnExactProofCut.Pure := by
  intro a l _ _ _ _
  unfold laws_FnExactProofCut.f
  by_cases h : (l.length : Int) > 1048576
  · exact ⟨1, by rw [if_pos h]⟩
  obtain ⟨g1, g2⟩ := cutR_len a l
  obtain ⟨x, u, v, y, ok, er⟩ : ∃ x u v y ok, cutR a l = (x, u, v, y, ok) := ⟨_, _, _, _, _, rfl⟩
  rw [er] at g1 g2
  dsimp only at g1 g2
  obtain ⟨K1, e1⟩ := toIntS_ev l (by omega)
  obtain ⟨K2, e2⟩ := sProofCut a l (by omega)
  obtain ⟨K3, e3⟩ := eqIntS_ev x x (by omega)
  obtain ⟨K4, e4⟩ := eqProof_ev u v y (by omega)
  obtain ⟨K5, e5⟩ := eqIntS_ev l l (by omega)
  obtain ⟨K6, e6⟩ := markIntS_ev l 1 (by omega) (by omega)
  obtain ⟨K7, e7⟩ := markIntS_ev x 1 (by omega) (by omega)
  obtain ⟨K8, e8⟩ := markIntS_ev y (1 + (x.length : Int)) (by omega) (by omega)
  obtain ⟨K9, e9⟩ := heldIntS_ev x.length 1 (by omega) (by omega)
  obtain ⟨K10, e10⟩ := heldIntS_ev y.length (1 + (x.length : Int)) (by omega) (by omega)
  dsimp only at e1 e2 e3 e4 e5 e6 e7 e8 e9 e10
  rw [er] at e2
  have i1 : impl_ProofCut.f a l = some (x, u, v, y, ok) := by rw [iProofCut, er]
  obtain ⟨M, hM⟩ : ∃ M, M = K1 + K2 + K3 + K4 + K5 + K6 + K7 + K8 + K9 + K10 := ⟨_, rfl⟩
  refine ⟨M + 4, ?_⟩
  rw [if_neg h, e1 _ (by omega)]
  simp only [Option.bind_some]
  rw [e2 _ (by omega), i1]
  simp only [Option.bind_some]
  rw [e3 _ (by omega)]
  simp only [Option.bind_some, decide_true, if_true]
  rw [e4 _ (by omega)]
  simp only [Option.bind_some, if_true, bne_self_eq_false]
  rw [show M + 4 = (M + 3) + 1 by omega, laws_FnExactProofCut.j0, if_neg (by simp), e1 _ (by omega)]
  simp only [Option.bind_some]
  rw [e5 _ (by omega)]
  simp only [Option.bind_some, decide_true, if_true]
  rw [e6 _ (by omega)]
  simp only [Option.bind_some]
  rw [if_neg (by omega), e3 _ (by omega)]
  simp only [Option.bind_some, decide_true, if_true]
  rw [e4 _ (by omega)]
  simp only [Option.bind_some, if_true, bne_self_eq_false]
  rw [show M + 3 = (M + 2) + 1 by omega, laws_FnExactProofCut.j1, if_neg (by simp), e7 _ (by omega)]
  simp only [Option.bind_some, laws_markProof.f]
  rw [e8 _ (by omega)]
  simp only [Option.bind_some]
  rw [e9 _ (by omega)]
  simp only [Option.bind_some]
  rw [if_neg (by omega)]
  simp only [laws_heldProof.f]
  rw [e10 _ (by omega)]
  simp only [Option.bind_some]
  rw [if_neg (by omega)]
  simp only [Option.bind_some]
  rw [if_neg (by omega)]
  simp only [if_true]
  rw [e1 _ (by omega)]
  simp only [Option.bind_some]
  rw [i1]
  simp only [Option.bind_some]
  rw [e3 _ (by omega)]
  simp only [Option.bind_some, decide_true, if_true]
  rw [e4 _ (by omega)]
  simp only [Option.bind_some, if_true, bne_self_eq_false]
  rw [show M + 2 = (M + 1) + 1 by omega, laws_FnExactProofCut.j2, if_neg (by simp), e9 _ (by omega)]
  simp only [Option.bind_some]
  rw [if_neg (by omega)]
  simp only [laws_heldProof.f]
  rw [e10 _ (by omega)]
  simp only [Option.bind_some]
  rw [if_neg (by omega)]
  simp only [Option.bind_some]
  rw [if_neg (by omega)]
  simp

end Go.Proofs.Ytnkdgonekadibaa.Pure
