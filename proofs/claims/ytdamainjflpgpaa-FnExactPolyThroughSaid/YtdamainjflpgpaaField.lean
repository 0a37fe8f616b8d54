/- What the field's functions answer, of the program and of the reference: at every two numbers of the kind int. No condition but that the arguments are of the kind. -/
import Derived.Test.YtdamainjflpgpaaNum
import Derived.Test.YtdamainjflpgpaaPx1
import Derived.Test.YtdamainjflpgpaaPx19
import Derived.Test.YtdamainjflpgpaaPx20
import Derived.Test.YtdamainjflpgpaaPx3
import Derived.Test.YtdamainjflpgpaaPx5
import Derived.Test.YtdamainjflpgpaaPx9
namespace Go.Proofs.Ytdamainjflpgpaa.P
open Go.RowKit Go.Proofs.Ytdamainjflpgpaa.Num

/-- A number of the field. -/
def okF (a : Int) : Bool := decide (0 ≤ a ∧ a ≤ 30)
def fsum (a b : Int) : Int := if okF a && okF b then (a + b) % 31 else 0
def fdif (a b : Int) : Int := if okF a && okF b then (a - b) % 31 else 0
def fmul (a b : Int) : Int := if okF a && okF b then (a * b) % 31 else 0
theorem okF_iff {a : Int} : okF a = true ↔ 0 ≤ a ∧ a ≤ 30 := by simp [okF]
theorem okF_false {a : Int} : okF a = false ↔ ¬ (0 ≤ a ∧ a ≤ 30) := by simp [okF]
theorem okF_mod (a : Int) : okF (a % 31) = true := by rw [okF_iff]; omega
theorem fsum_ok {a b : Int} (ha : okF a = true) (hb : okF b = true) : fsum a b = (a + b) % 31 := by simp [fsum, ha, hb]
theorem fdif_ok {a b : Int} (ha : okF a = true) (hb : okF b = true) : fdif a b = (a - b) % 31 := by simp [fdif, ha, hb]
theorem fmul_ok {a b : Int} (ha : okF a = true) (hb : okF b = true) : fmul a b = (a * b) % 31 := by simp [fmul, ha, hb]
theorem okF_fsum (a b : Int) : okF (fsum a b) = true := by unfold fsum; split; exact okF_mod _; rfl
theorem okF_fdif (a b : Int) : okF (fdif a b) = true := by unfold fdif; split; exact okF_mod _; rfl
theorem okF_fmul (a b : Int) : okF (fmul a b) = true := by unfold fmul; split; exact okF_mod _; rfl
theorem mul_rng {a b : Int} (ha : 0 ≤ a ∧ a ≤ 30) (hb : 0 ≤ b ∧ b ≤ 30) : 0 ≤ a * b ∧ a * b ≤ 900 := by
  refine ⟨Int.mul_nonneg ha.1 hb.1, ?_⟩
  have := Int.mul_le_mul ha.2 hb.2 hb.1 (by omega)
  omega

theorem l6In_eq (a b c : Int) : spec_l6In.f a b c = some (decide (b ≤ a ∧ a ≤ c)) := by
  unfold spec_l6In.f
  by_cases h : a ≥ b
  · rw [if_pos h]; simp [show b ≤ a from h]
  · rw [if_neg h]; simp [show ¬ b ≤ a from h]
theorem within_eq (a b c : Int) : impl_within.f a b c = some (decide (b ≤ a ∧ a ≤ c)) := by
  unfold impl_within.f
  by_cases h : a ≥ b
  · rw [if_pos h]; simp [show b ≤ a from h]
  · rw [if_neg h]; simp [show ¬ b ≤ a from h]
theorem sFieldOk (a : Int) : spec_FieldOk.f a = some (okF a) := by simp [spec_FieldOk.f, l6In_eq, okF]
theorem iFieldOk (a : Int) : impl_FieldOk.f a = some (okF a) := by simp [impl_FieldOk.f, within_eq, okF]
theorem loNum_eq {a : Int} (h : 0 ≤ a) : laws_loNum.f a = some (a % 31) := by unfold laws_loNum.f; rw [tmod_pos h]
theorem elementOf_eq (a : Int) : impl_elementOf.f a = some (a % 31) := by unfold impl_elementOf.f; rw [elem_eq]
theorem plus_eq {a b : Int} (h : -4611686018427387904 ≤ a ∧ a ≤ 4611686018427387903) (h' : -4611686018427387904 ≤ b ∧ b ≤ 4611686018427387903) : impl_element_plus.f a b = some ((a + b) % 31) := by
  unfold impl_element_plus.f; rw [w64 (by omega), elementOf_eq]; rfl
theorem plus_ok {a b : Int} (h : okF a = true) (h' : okF b = true) : impl_element_plus.f a b = some ((a + b) % 31) := by
  rw [okF_iff] at h h'; exact plus_eq (by omega) (by omega)
theorem times_ok {a b : Int} (h : okF a = true) (h' : okF b = true) : impl_element_times.f a b = some ((a * b) % 31) := by
  rw [okF_iff] at h h'
  have := mul_rng h h'
  unfold impl_element_times.f; rw [w64 (by omega), elementOf_eq]; rfl
theorem sFieldDif (a b : Int) : spec_FieldDif.f a b = some (fdif a b) := by
  unfold spec_FieldDif.f fdif
  simp only [sFieldOk, Option.bind_some]
  cases ha : okF a <;> simp only [Bool.false_and, Bool.true_and, Bool.false_eq_true, if_false, if_true]
  cases hb : okF b <;> simp only [Bool.false_eq_true, if_false, if_true]
  rw [okF_iff] at ha hb
  rw [w64 (n := a + 31) (by omega), w64 (by omega), tmod_pos (by omega)]
  congr 1; omega
theorem sFieldMul (a b : Int) : spec_FieldMul.f a b = some (fmul a b) := by
  unfold spec_FieldMul.f fmul
  simp only [sFieldOk, Option.bind_some]
  cases ha : okF a <;> simp only [Bool.false_and, Bool.true_and, Bool.false_eq_true, if_false, if_true]
  cases hb : okF b <;> simp only [Bool.false_eq_true, if_false, if_true]
  rw [okF_iff] at ha hb
  have := mul_rng ha hb
  rw [w64 (by omega), tmod_pos (by omega)]
theorem iFieldSum (a b : Int) : impl_FieldSum.f a b = some (fsum a b) := by
  unfold impl_FieldSum.f fsum
  simp only [iFieldOk, Option.bind_some]
  cases ha : okF a <;> simp only [Bool.false_and, Bool.true_and, Bool.false_eq_true, if_false, if_true]
  cases hb : okF b <;> simp only [Bool.false_eq_true, if_false, if_true]
  rw [plus_ok ha hb]; rfl
theorem iFieldMul (a b : Int) : impl_FieldMul.f a b = some (fmul a b) := by
  unfold impl_FieldMul.f fmul
  simp only [iFieldOk, Option.bind_some]
  cases ha : okF a <;> simp only [Bool.false_and, Bool.true_and, Bool.false_eq_true, if_false, if_true]
  cases hb : okF b <;> simp only [Bool.false_eq_true, if_false, if_true]
  rw [times_ok ha hb]; rfl

end Go.Proofs.Ytdamainjflpgpaa.P
