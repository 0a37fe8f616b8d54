/- Two drawn field numbers, one times the other, are 0 just where one of them is; and are a number of the field. No condition. -/
import Derived.Test.YtfolajifiglpkaaPick
import Derived.Test.YtfolajifiglpkaaMod
import Derived.Test.YtfolajifiglpkaaPx3
namespace Go.Proofs.Ytfolajifiglpkaa.Pure
open Go.RowKit Go.Proofs.Ytfolajifiglpkaa.P Go.Proofs.Ytfolajifiglpkaa.Num Go.Proofs.YtfolajifiglpkaaW.PrintWords Go.Proofs.YtfolajifiglpkaaW.PrintLast
set_option linter.unusedSimpArgs false
set_option linter.unusedVariables false

theorem FnMulNone : laws_FnMulNone.Pure := by
  intro l _ _ hb
  obtain ⟨a, b, e, _⟩ := drawSum_ev (bytes_of hb)
  refine ⟨5, ?_⟩
  unfold laws_FnMulNone.f
  by_cases h : (l.length : Int) > 1048576
  · rw [if_pos h]
  rw [if_neg h]
  unfold spec_DrawFieldMul.f
  rw [e 5 (by omega)]
  simp only [Option.bind_some, sFieldMul, iFieldMul, sFieldOk, if_true]
  cases ha : okF a <;> simp only [Bool.false_eq_true, if_false, if_true, laws_FnMulNone.j0, sFieldMul, Option.bind_some]
  · simp
  cases hb : okF b <;> simp only [Bool.not_false, Bool.not_true, Bool.false_eq_true, if_false, if_true, laws_FnMulNone.j0, sFieldMul, Option.bind_some]
  · simp
  simp only [iFieldOk, okF_fmul, Option.bind_some]
  have hz := zd_ok ha hb
  rw [fmul_ok ha hb]
  by_cases h0 : a = 0
  · subst h0
    simp
  · by_cases h1 : b = 0
    · subst h1
      simp [h0]
    · have : ¬ (a * b) % 31 = 0 := fun h2 => by rcases hz.1 h2 with h3 | h3 <;> contradiction
      simp [h0, h1, this]
      rw [Bool.eq_iff_iff]; simp [h1, this]

end Go.Proofs.Ytfolajifiglpkaa.Pure
