/- What is put together is taken apart: of two drawn field numbers. No condition. -/
import Derived.Test.YtfolajifiglpkaaPick
import Derived.Test.YtfolajifiglpkaaPx4
namespace Go.Proofs.Ytfolajifiglpkaa.Pure
open Go.RowKit Go.Proofs.Ytfolajifiglpkaa.P Go.Proofs.Ytfolajifiglpkaa.Num Go.Proofs.YtfolajifiglpkaaW.PrintWords Go.Proofs.YtfolajifiglpkaaW.PrintLast
set_option linter.unusedSimpArgs false
set_option linter.unusedVariables false

theorem FnSumDif : laws_FnSumDif.Pure := by
  intro l _ _ hb
  obtain ⟨a, b, e, _⟩ := drawSum_ev (bytes_of hb)
  refine ⟨5, ?_⟩
  unfold laws_FnSumDif.f
  by_cases h : (l.length : Int) > 1048576
  · rw [if_pos h]
  rw [if_neg h]
  unfold spec_DrawFieldDif.f
  rw [e 5 (by omega)]
  simp only [Option.bind_some, sFieldDif, iFieldDif, sFieldOk, if_true]
  cases ha : okF a <;> simp only [Bool.false_eq_true, if_false, if_true, laws_FnSumDif.j0, sFieldDif, Option.bind_some]
  · simp
  cases hb : okF b <;> simp only [Bool.not_false, Bool.not_true, Bool.false_eq_true, if_false, if_true, laws_FnSumDif.j0, sFieldDif, Option.bind_some]
  · simp
  simp only [iFieldSum, iFieldDif, Option.bind_some]
  rw [fsum_ok (okF_fdif _ _) hb, fdif_ok (okF_fsum _ _) hb, fdif_ok ha ha, fdif_ok ha hb, fsum_ok ha hb]
  rw [okF_iff] at ha hb
  rw [if_pos (by omega), if_pos (by omega)]
  simp

end Go.Proofs.Ytfolajifiglpkaa.Pure
