/- Each drawn field number but 0 has one with which it is 1; that one's own is the first; and of a product it is the product of both. No condition. -/
import Derived.Test.YtpdkdckkhjancaaRDraw
import Derived.Test.YtpdkdckkhjancaaMod
import Derived.Test.YtpdkdckkhjancaaPx15
namespace Go.Proofs.Ytpdkdckkhjancaa.Pure
open Go.RowKit Go.Proofs.Ytpdkdckkhjancaa.P Go.Proofs.Ytpdkdckkhjancaa.Num Go.Proofs.YtpdkdckkhjancaaW.PrintWords Go.Proofs.YtpdkdckkhjancaaW.PrintLast
set_option linter.unusedSimpArgs false
set_option linter.unusedVariables false

theorem FnInv : laws_FnInv.Pure := by
  intro l l1 _ _ hb _ _ _
  obtain ⟨a, e, _⟩ := drawInv_ev (bytes_of hb)
  refine ⟨50, ?_⟩
  unfold laws_FnInv.f
  by_cases h : (l.length : Int) > 1048576
  · rw [if_pos h]; rfl
  rw [if_neg h]
  simp only [laws_FnInv.j0]
  by_cases h1 : (l1.length : Int) > 1048576
  · simp [h1]
  simp only [h1, decide_false, Bool.false_eq_true, if_false]
  rw [e _ (by omega)]
  simp only [Option.bind_some]
  rw [sFieldInv _ _ (by omega), iFieldInv _ _ (by omega)]
  simp only [Option.bind_some, bne_self_eq_false, Bool.false_eq_true, if_false, if_true, sFieldOk]
  cases ha : okF a
  · simp [laws_FnInv.j1]
  simp only [Bool.not_true, laws_FnInv.j1, Bool.false_eq_true, if_false, if_true]
  by_cases h0 : a = 0
  · simp [h0]
  obtain ⟨b, hbb⟩ : ∃ b : Int, 1 + (l1.length : Int) % 30 = b := ⟨_, rfl⟩
  have hb2 : okF b = true := okF_iff.2 (by omega)
  have hb0 : b ≠ 0 := by omega
  simp only [h0, if_false, hbb]
  rw [iFieldInv b _ (by omega)]
  simp only [Option.bind_some, iFieldMul]
  rw [iFieldInv _ _ (by omega)]
  simp only [Option.bind_some]
  rw [iFieldInv (inv31 a) _ (by omega)]
  have hab : ¬ fmul a b = 0 := by
    rw [fmul_ok ha hb2]
    intro hz
    rcases (zd_ok ha hb2).1 hz with h2 | h2 <;> contradiction
  have hia := inv_ok ha
  have hib := inv_ok hb2
  simp only [Option.bind_some, okF_fmul, hab, hia, hb2, hb0, inv_ne ha h0, if_true, if_false, inv_inv ha]
  rw [fmul_ok ha hia, inv_one ha h0, if_pos rfl, fmul_ok hia hib, fmul_ok ha hb2, inv_mul ha hb2 h0 hb0]
  simp

end Go.Proofs.Ytpdkdckkhjancaa.Pure
