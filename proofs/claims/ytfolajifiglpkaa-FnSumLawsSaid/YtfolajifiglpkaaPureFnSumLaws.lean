/- The sum of field numbers: it doesn't matter which are put together first, or in which order; 0 adds nothing; the sum is a number of the field. Of drawn numbers and any third. No condition. -/
import Derived.Test.YtfolajifiglpkaaPick
import Derived.Test.YtfolajifiglpkaaPx3
namespace Go.Proofs.Ytfolajifiglpkaa.Pure
open Go.RowKit Go.Proofs.Ytfolajifiglpkaa.P Go.Proofs.Ytfolajifiglpkaa.Num Go.Proofs.YtfolajifiglpkaaW.PrintWords Go.Proofs.YtfolajifiglpkaaW.PrintLast
set_option linter.unusedSimpArgs false
set_option linter.unusedVariables false

theorem FnSumLaws : laws_FnSumLaws.Pure := by
  intro l l1 _ _ hb _ _ _
  obtain ⟨a, b, e, _⟩ := drawSum_ev (bytes_of hb)
  refine ⟨5, ?_⟩
  unfold laws_FnSumLaws.f
  by_cases h : (l.length : Int) > 1048576
  · rw [if_pos h]; rfl
  rw [if_neg h]
  simp only [laws_FnSumLaws.j0]
  by_cases h1 : (l1.length : Int) > 1048576
  · simp [h1]
  simp only [h1, decide_false, Bool.false_eq_true, if_false]
  rw [e 4 (by omega)]
  simp only [Option.bind_some, sFieldSum, iFieldSum, sFieldOk, if_true]
  cases ha : okF a <;> simp only [Bool.false_eq_true, if_false, if_true, laws_FnSumLaws.j1, sFieldSum, Option.bind_some]
  · simp
  cases hb : okF b <;> simp only [Bool.not_false, Bool.not_true, Bool.false_eq_true, if_false, if_true, laws_FnSumLaws.j1, sFieldSum, Option.bind_some]
  · simp
  rw [loNum_eq (by omega)]
  obtain ⟨c, hc⟩ : ∃ c : Int, (l1.length : Int) % 31 = c := ⟨_, rfl⟩
  have hcc : okF c = true := by rw [← hc]; exact okF_mod _
  have h0 : okF 0 = true := rfl
  simp only [hc, Option.bind_some, iFieldSum, iFieldOk, okF_fsum]
  rw [fsum_ok ha hb, fsum_ok hb ha, fsum_ok (okF_mod _) hcc, fsum_ok hb hcc, fsum_ok ha (okF_mod _), fsum_ok ha h0]
  rw [okF_iff] at ha hb hcc
  rw [if_pos (by omega), if_pos (by omega), if_pos (by omega)]

end Go.Proofs.Ytfolajifiglpkaa.Pure
