/- Of two field numbers that give the same, times one that is not 0, both are the same: drawn ones and any third. No condition. -/
import Derived.Test.YtfolajifiglpkaaPick
import Derived.Test.YtfolajifiglpkaaMod
import Derived.Test.YtfolajifiglpkaaPx4
namespace Go.Proofs.Ytfolajifiglpkaa.Pure
open Go.RowKit Go.Proofs.Ytfolajifiglpkaa.P Go.Proofs.Ytfolajifiglpkaa.Num Go.Proofs.YtfolajifiglpkaaW.PrintWords Go.Proofs.YtfolajifiglpkaaW.PrintLast
set_option linter.unusedSimpArgs false
set_option linter.unusedVariables false

theorem FnMulDif : laws_FnMulDif.Pure := by
  intro l l1 _ _ hb _ _ _
  obtain ⟨a, b, e, _⟩ := drawSum_ev (bytes_of hb)
  refine ⟨5, ?_⟩
  unfold laws_FnMulDif.f
  by_cases h : (l.length : Int) > 1048576
  · rw [if_pos h]; rfl
  rw [if_neg h]
  simp only [laws_FnMulDif.j0]
  by_cases h1 : (l1.length : Int) > 1048576
  · simp [h1]
  simp only [h1, decide_false, Bool.false_eq_true, if_false]
  unfold spec_DrawFieldMul.f
  rw [e 4 (by omega)]
  simp only [Option.bind_some, sFieldMul, iFieldMul, sFieldOk, if_true]
  cases ha : okF a <;> simp only [Bool.false_eq_true, if_false, if_true, laws_FnMulDif.j1, sFieldMul, Option.bind_some]
  · simp
  cases hb : okF b <;> simp only [Bool.not_false, Bool.not_true, Bool.false_eq_true, if_false, if_true, laws_FnMulDif.j1, sFieldMul, Option.bind_some]
  · simp
  rw [loNum_eq (by omega)]
  obtain ⟨c, hc⟩ : ∃ c : Int, (l1.length : Int) % 31 = c := ⟨_, rfl⟩
  have hcc : okF c = true := by rw [← hc]; exact okF_mod _
  simp only [hc, Option.bind_some, iFieldMul]
  by_cases h0 : b = 0
  · rw [if_pos h0]
  rw [if_neg h0, fmul_ok hcc hb, fmul_ok ha hb]
  have hz := cancel ha hb hcc h0
  by_cases h2 : c = a
  · simp [h2]
  · have h3 : ¬ (c * b) % 31 = (a * b) % 31 := fun h4 => h2 (hz.1 h4)
    simp [h2, h3]
    rw [Bool.eq_iff_iff]; simp [h2, h3]

end Go.Proofs.Ytfolajifiglpkaa.Pure
