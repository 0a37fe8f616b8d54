/- FieldOk tells of a drawn number that it lies from 0 to 30, or not. No condition. -/
import Derived.Test.YtfolajifiglpkaaPick
import Derived.Test.YtfolajifiglpkaaPx2
namespace Go.Proofs.Ytfolajifiglpkaa.Pure
open Go.RowKit Go.Proofs.Ytfolajifiglpkaa.P Go.Proofs.Ytfolajifiglpkaa.Num Go.Proofs.YtfolajifiglpkaaW.PrintWords Go.Proofs.YtfolajifiglpkaaW.PrintLast
set_option linter.unusedSimpArgs false
set_option linter.unusedVariables false

theorem FnFieldOk : laws_FnFieldOk.Pure := by
  intro l _ _ hb
  unfold laws_FnFieldOk.f
  by_cases h : (l.length : Int) > 1048576
  · exact ⟨0, by rw [if_pos h]⟩
  obtain ⟨c, ho, hc, hl⟩ := open_ev (bytes_of hb)
  obtain ⟨v, e, _, _⟩ := pick_ev (p := 0) (n := 41) ⟨hc, hl, by omega, by omega⟩ (by omega)
  refine ⟨1, ?_⟩
  rw [if_neg h]
  unfold spec_DrawFieldOk.f
  rw [ho]
  simp only [Option.bind_some]
  rw [e 1 (by omega)]
  simp only [Option.bind_some, sFieldOk, iFieldOk]
  generalize wrap64 (v - 5) = n
  by_cases h0 : n ≥ 0
  · simp [h0, okF]; omega
  · simp [h0, okF]; try omega

end Go.Proofs.Ytfolajifiglpkaa.Pure
