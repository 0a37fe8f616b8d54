/- A drawn value is written just if its kind has it. No condition. -/
import Derived.Test.YtnkdgonekadibaaTDraw
import Derived.Test.YtnkdgonekadibaaPx16
namespace Go.Proofs.Ytnkdgonekadibaa.Pure
open Go.RowKit Go.Proofs.Ytnkdgonekadibaa.P Go.Proofs.Ytnkdgonekadibaa.Num Go.Proofs.YtnkdgonekadibaaW.PrintWords Go.Proofs.YtnkdgonekadibaaW.PrintLast
set_option linter.unusedSimpArgs false
set_option linter.unusedVariables false

theorem FnTypeAll : laws_FnTypeAll.Pure := by
  intro l _ _ hb
  unfold laws_FnTypeAll.f
  by_cases h : (l.length : Int) > 1048576
  · exact ⟨1, by rw [if_pos h]⟩
  obtain ⟨a, v, e1, a1, a2, v1, v2⟩ := drawTypeMake_ev (bytes_of hb)
  obtain ⟨K2, e2⟩ := sTypeMake a v
  have hl : (encR a v).1.length ≤ 4 := by
    have h1 : a = 0 ∨ a = 1 ∨ a = 2 ∨ a = 3 ∨ a = 4 := by omega
    have h2 : v = -1 ∨ v = 0 ∨ v = 1 ∨ v = 2 ∨ v = 3 ∨ v = 4 ∨ v = 5 ∨ v = 6 ∨ v = 7 ∨ v = 8 ∨ v = 9 ∨ v = 10 := by omega
    rcases h1 with rfl | rfl | rfl | rfl | rfl <;> rcases h2 with rfl | rfl | rfl | rfl | rfl | rfl | rfl | rfl | rfl | rfl | rfl | rfl <;> decide
  obtain ⟨K3, e3⟩ := loInts_ev (encR a v).1 (encR a v).1 (by omega)
  dsimp only at e2 e3
  refine ⟨K2 + K3 + 2, ?_⟩
  rw [if_neg h, e1 _ (by omega)]
  simp only [Option.bind_some, impl_TypeMake.f]
  rw [e2 _ (by omega)]
  simp only [Option.bind_some, bne_self_eq_false, Bool.false_eq_true, if_false]
  rw [e3 _ (by omega)]
  simp only [Option.bind_some, decide_true, Bool.not_true, laws_FnTypeAll.j0, Bool.false_eq_true, if_false]
  have h1 : a = 0 ∨ a = 1 ∨ a = 2 ∨ a = 3 ∨ a = 4 := by omega
  have h2 : v = -1 ∨ v = 0 ∨ v = 1 ∨ v = 2 ∨ v = 3 ∨ v = 4 ∨ v = 5 ∨ v = 6 ∨ v = 7 ∨ v = 8 ∨ v = 9 ∨ v = 10 := by omega
  clear e1 e2 e3 hl
  rcases h1 with rfl | rfl | rfl | rfl | rfl <;> rcases h2 with rfl | rfl | rfl | rfl | rfl | rfl | rfl | rfl | rfl | rfl | rfl | rfl <;> decide

end Go.Proofs.Ytnkdgonekadibaa.Pure
