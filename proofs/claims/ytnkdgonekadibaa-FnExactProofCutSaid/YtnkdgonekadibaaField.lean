/- What the field's functions answer, of the program and of the reference: at every two numbers of the kind int. No condition but that the arguments are of the kind. -/
import Derived.Test.YtnkdgonekadibaaNum
import Derived.Test.YtnkdgonekadibaaPx1
import Derived.Test.YtnkdgonekadibaaPx4
namespace Go.Proofs.Ytnkdgonekadibaa.P
open Go.RowKit Go.Proofs.Ytnkdgonekadibaa.Num

/-- A number of the field. -/
def okF (a : Int) : Bool := decide (0 ≤ a ∧ a ≤ 30)
def fsum (a b : Int) : Int := if okF a && okF b then (a + b) % 31 else 0
def fdif (a b : Int) : Int := if okF a && okF b then (a - b) % 31 else 0
def fmul (a b : Int) : Int := if okF a && okF b then (a * b) % 31 else 0
theorem okF_iff {a : Int} : okF a = true ↔ 0 ≤ a ∧ a ≤ 30 := by simp [okF]
theorem okF_false {a : Int} : okF a = false ↔ ¬ (0 ≤ a ∧ a ≤ 30) := by simp [okF]
theorem okF_mod (a : Int) : okF (a % 31) = true := by rw [okF_iff]; omega
theorem fsum_ok {a b : Int} (ha : okF a = true) (hb : okF b = true) : fsum a b = (a + b) % 31 := by simp [fsum, ha, hb]
theorem fdif_ok {a b : Int} (ha : okF a = true) (hb : okF b = true) : fdif a b = (a - b) % 31 := by simp [fdif, ha, hb]
theorem fmul_ok {a b : Int} (ha : okF a = true) (hb : okF b = true) : fmul a b = (a * b) % 31 := by simp [fmul, ha, hb]
theorem okF_fsum (a b : Int) : okF (fsum a b) = true := by unfold fsum; split; exact okF_mod _; rfl
theorem okF_fdif (a b : Int) : okF (fdif a b) = true := by unfold fdif; split; exact okF_mod _; rfl
theorem okF_fmul (a b : Int) : okF (fmul a b) = true := by unfold fmul; split; exact okF_mod _; rfl
theorem mul_rng {a b : Int} (ha : 0 ≤ a ∧ a ≤ 30) (hb : 0 ≤ b ∧ b ≤ 30) : 0 ≤ a * b ∧ a * b ≤ 900 := by
  refine ⟨Int.mul_nonneg ha.1 hb.1, ?_⟩
  have := Int.mul_le_mul ha.2 hb.2 hb.1 (by omega)
  omega

theorem l6In_eq (a b c : Int) : spec_l6In.f a b c = some (decide (b ≤ a ∧ a ≤ c)) := by
  unfold spec_l6In.f
  by_cases h : a ≥ b
  · rw [if_pos h]; simp [show b ≤ a from h]
  · rw [if_neg h]; simp [show ¬ b ≤ a from h]
theorem sFieldOk (a : Int) : spec_FieldOk.f a = some (okF a) := by simp [spec_FieldOk.f, l6In_eq, okF]

end Go.Proofs.Ytnkdgonekadibaa.P
