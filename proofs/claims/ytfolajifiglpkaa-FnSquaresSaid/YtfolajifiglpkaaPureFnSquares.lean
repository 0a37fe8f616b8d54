/- Two drawn field numbers have one square just where they are the same, or together 0. No condition. -/
import Derived.Test.YtfolajifiglpkaaPick
import Derived.Test.YtfolajifiglpkaaMod
import Derived.Test.YtfolajifiglpkaaPx4
namespace Go.Proofs.Ytfolajifiglpkaa.Pure
open Go.RowKit Go.Proofs.Ytfolajifiglpkaa.P Go.Proofs.Ytfolajifiglpkaa.Num Go.Proofs.YtfolajifiglpkaaW.PrintWords Go.Proofs.YtfolajifiglpkaaW.PrintLast
set_option linter.unusedSimpArgs false
set_option linter.unusedVariables false

theorem FnSquares : laws_FnSquares.Pure := by
  intro l _ _ hb
  obtain ⟨a, b, e, _⟩ := drawSum_ev (bytes_of hb)
  refine ⟨5, ?_⟩
  unfold laws_FnSquares.f
  by_cases h : (l.length : Int) > 1048576
  · rw [if_pos h]
  rw [if_neg h]
  unfold spec_DrawFieldMul.f
  rw [e 5 (by omega)]
  simp only [Option.bind_some, sFieldMul, iFieldMul, sFieldOk, if_true]
  cases ha : okF a <;> simp only [Bool.false_eq_true, if_false, if_true, laws_FnSquares.j0, sFieldMul, Option.bind_some]
  · simp
  cases hb : okF b <;> simp only [Bool.not_false, Bool.not_true, Bool.false_eq_true, if_false, if_true, laws_FnSquares.j0, sFieldMul, Option.bind_some]
  · simp
  simp only [iFieldMul, iFieldSum, Option.bind_some]
  have hz := squares ha hb
  rw [fmul_ok ha ha, fmul_ok hb hb, fsum_ok ha hb]
  by_cases h0 : a = b
  · subst h0
    simp
  · rw [if_neg h0]
    simp only [h0, false_or] at hz
    by_cases h1 : (a * a) % 31 = (b * b) % 31
    · simp [h1, hz.1 h1]
    · have h2 : ¬ (a + b) % 31 = 0 := fun h3 => h1 (hz.2 h3)
      simp [h1, h2]
      rw [Bool.eq_iff_iff]; simp [h1, h2]

end Go.Proofs.Ytfolajifiglpkaa.Pure
