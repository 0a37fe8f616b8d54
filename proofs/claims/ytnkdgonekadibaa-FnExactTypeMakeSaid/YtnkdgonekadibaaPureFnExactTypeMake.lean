/- What a value is written as: the program's as the reference's, and each call's list is its own. No condition. -/
import Derived.Test.YtnkdgonekadibaaType
import Derived.Test.YtnkdgonekadibaaPx4
namespace Go.Proofs.Ytnkdgonekadibaa.Pure
open Go.RowKit Go.Proofs.Ytnkdgonekadibaa.P Go.Proofs.Ytnkdgonekadibaa.Num Go.Proofs.YtnkdgonekadibaaW.PrintWords Go.Proofs.YtnkdgonekadibaaW.PrintLast
set_option linter.unusedSimpArgs false
set_option linter.unusedVariables false

theorem encR_len (a v : Int) : (encR a v).1.length ≤ 4 := by
  cases h : encI a v with
  | none => rw [encR_none h]; simp
  | some l =>
    rw [encR_some h]
    have hv : 0 ≤ v ∧ v ≤ mostI a := Classical.byContradiction fun h1 => by rw [encI_out h1] at h; cases h
    obtain ⟨n, rfl⟩ := Int.eq_ofNat_of_zero_le hv.1
    rw [encI_at] at h
    exact encs_len _ (List.mem_of_getElem? h)
theorem FnExactTypeMake : laws_FnExactTypeMake.Pure := by
  intro a v _ _
  unfold laws_FnExactTypeMake.f
  have hl := encR_len a v
  obtain ⟨K1, e1⟩ := sTypeMake a v
  obtain ⟨r, ok, e⟩ : ∃ rr oo, encR a v = (rr, oo) := ⟨_, _, rfl⟩
  rw [e] at hl
  dsimp only at hl
  obtain ⟨K2, e2⟩ := eqIntS_ev r r (by omega)
  obtain ⟨K3, e3⟩ := markIntS_ev r 1 (by omega) (by omega)
  obtain ⟨K4, e4⟩ := heldIntS_ev r.length 1 (by omega) (by omega)
  dsimp only at e1 e2 e3 e4
  rw [e] at e1
  refine ⟨K1 + K2 + K3 + K4 + 3, ?_⟩
  rw [e1 _ (by omega)]
  simp only [Option.bind_some, impl_TypeMake.f]
  rw [e]
  simp only [Option.bind_some]
  rw [e2 _ (by omega)]
  simp only [Option.bind_some, decide_true, if_true, bne_self_eq_false]
  rw [show K1 + K2 + K3 + K4 + 3 = (K1 + K2 + K3 + K4 + 2) + 1 by omega, laws_FnExactTypeMake.j0, if_neg (by simp), e3 _ (by omega)]
  simp only [Option.bind_some]
  rw [e4 _ (by omega)]
  simp only [Option.bind_some, impl_TypeMake.f]
  rw [e, if_neg (by omega)]
  simp only [Option.bind_some, if_true]
  rw [e2 _ (by omega)]
  simp only [Option.bind_some, decide_true, if_true, bne_self_eq_false]
  rw [show K1 + K2 + K3 + K4 + 2 = (K1 + K2 + K3 + K4 + 1) + 1 by omega, laws_FnExactTypeMake.j1, if_neg (by simp), e4 _ (by omega)]
  simp only [Option.bind_some]
  rw [if_neg (by omega)]
  simp

end Go.Proofs.Ytnkdgonekadibaa.Pure
