/- A drawn list is of its kind just if some value is written so. No condition. -/
import Derived.Test.YtnkdgonekadibaaTDraw
import Derived.Test.YtnkdgonekadibaaPx20
namespace Go.Proofs.Ytnkdgonekadibaa.Pure
open Go.RowKit Go.Proofs.Ytnkdgonekadibaa.P Go.Proofs.Ytnkdgonekadibaa.Num Go.Proofs.YtnkdgonekadibaaW.PrintWords Go.Proofs.YtnkdgonekadibaaW.PrintLast
set_option linter.unusedSimpArgs false
set_option linter.unusedVariables false

theorem FnTypeStrict : laws_FnTypeStrict.Pure := by
  intro l _ _ hb
  unfold laws_FnTypeStrict.f
  by_cases h : (l.length : Int) > 1048576
  · exact ⟨1, by rw [if_pos h]⟩
  obtain ⟨a, c, ⟨K1, e1⟩, a1, a2, hc⟩ := drawTypeVal_ev (bytes_of hb)
  obtain ⟨K2, e2⟩ := sTypeVal a c (by omega)
  obtain ⟨K3, e3⟩ := iTypeVal a c
  obtain ⟨K4, e4⟩ := iTypeOk a c
  obtain ⟨K5, e5⟩ := loInts_ev c c (by omega)
  obtain ⟨v, ok, e⟩ : ∃ rr oo, valR a c = (rr, oo) := ⟨_, _, rfl⟩
  dsimp only at e1 e2 e3 e4 e5
  rw [e] at e2 e3 e4
  refine ⟨K1 + K2 + K3 + K4 + K5 + 2, ?_⟩
  rw [if_neg h, e1 _ (by omega)]
  simp only [Option.bind_some]
  rw [e2 _ (by omega), e3 _ (by omega)]
  simp only [Option.bind_some, bne_self_eq_false, Bool.false_eq_true, if_false, if_true]
  rw [show K1 + K2 + K3 + K4 + K5 + 2 = (K1 + K2 + K3 + K4 + K5 + 1) + 1 by omega, laws_FnTypeStrict.j0]
  cases ok
  · rw [if_pos (by rfl), if_pos (by rfl), if_pos rfl, if_neg (by simp), e4 _ (by omega)]; rfl
  · rw [if_neg (by simp)]
    simp only [impl_TypeMake.f]
    rw [encR_some (valR_back e)]
    simp only [Option.bind_some, if_true]
    rw [e5 _ (by omega)]; simp

end Go.Proofs.Ytnkdgonekadibaa.Pure
