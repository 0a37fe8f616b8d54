/- Products of field numbers: neither the order nor which are multiplied first matters, 1 changes nothing, and products go through sums; of drawn numbers and any third. No condition. -/
import Derived.Test.YtpdkdckkhjancaaRDraw
import Derived.Test.YtpdkdckkhjancaaMod
import Derived.Test.YtpdkdckkhjancaaPx13
namespace Go.Proofs.Ytpdkdckkhjancaa.Pure
open Go.RowKit Go.Proofs.Ytpdkdckkhjancaa.P Go.Proofs.Ytpdkdckkhjancaa.Num Go.Proofs.YtpdkdckkhjancaaW.PrintWords Go.Proofs.YtpdkdckkhjancaaW.PrintLast
set_option linter.unusedSimpArgs false
set_option linter.unusedVariables false

theorem mm (x y : Int) : (x % 31) * y % 31 = x * y % 31 := by rw [Int.mul_emod, Int.emod_emod_of_dvd _ (Int.dvd_refl 31), ← Int.mul_emod]
theorem mm' (x y : Int) : x * (y % 31) % 31 = x * y % 31 := by rw [Int.mul_comm, mm, Int.mul_comm]
theorem FnMulLaws : laws_FnMulLaws.Pure := by
  intro l l1 _ _ hb _ _ _
  obtain ⟨a, b, e, _⟩ := drawSum_ev (bytes_of hb)
  refine ⟨5, ?_⟩
  unfold laws_FnMulLaws.f
  by_cases h : (l.length : Int) > 1048576
  · rw [if_pos h]; rfl
  rw [if_neg h]
  simp only [laws_FnMulLaws.j0]
  by_cases h1 : (l1.length : Int) > 1048576
  · simp [h1]
  simp only [h1, decide_false, Bool.false_eq_true, if_false]
  unfold spec_DrawFieldMul.f
  rw [e 4 (by omega)]
  simp only [Option.bind_some, sFieldMul, iFieldMul, sFieldOk, if_true]
  cases ha : okF a <;> simp only [Bool.false_eq_true, if_false, if_true, laws_FnMulLaws.j1, sFieldMul, Option.bind_some]
  · simp
  cases hb : okF b <;> simp only [Bool.not_false, Bool.not_true, Bool.false_eq_true, if_false, if_true, laws_FnMulLaws.j1, sFieldMul, Option.bind_some]
  · simp
  rw [loNum_eq (by omega)]
  obtain ⟨c, hc⟩ : ∃ c : Int, (l1.length : Int) % 31 = c := ⟨_, rfl⟩
  have hcc : okF c = true := by rw [← hc]; exact okF_mod _
  have h1' : okF 1 = true := rfl
  simp only [hc, Option.bind_some, iFieldMul, iFieldSum]
  rw [fmul_ok ha hb, fmul_ok hb ha, fmul_ok (okF_mod _) hcc, fmul_ok hb hcc, fmul_ok ha (okF_mod _), fmul_ok ha h1', fsum_ok hb hcc, fmul_ok ha hcc, fmul_ok ha (okF_mod _), fsum_ok (okF_mod _) (okF_mod _)]
  have ha2 := okF_iff.1 ha
  rw [if_pos (by rw [Int.mul_comm]), if_pos (by rw [mm, mm', Int.mul_assoc]), if_pos (by omega)]
  have : a * ((b + c) % 31) % 31 = (a * b % 31 + a * c % 31) % 31 := by rw [mm', Int.mul_add, Int.add_emod]
  simp [this]

end Go.Proofs.Ytpdkdckkhjancaa.Pure
