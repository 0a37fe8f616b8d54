/- The numbers modulo 31: no two that are not 0 give 0, one times the other; each but 0 has an inverse; and the two ways in which inverses are found. Plain facts; no condition. -/
import Derived.Test.YtnkdgonekadibaaField
import Derived.KernelRfl
namespace Go.Proofs.Ytnkdgonekadibaa.P
open Go.RowKit Go.Proofs.Ytnkdgonekadibaa.Num Go.Proofs.YtnkdgonekadibaaW.PrintWords

theorem zd_fin : ∀ i : Fin 31, ∀ j : Fin 31, (i.val * j.val) % 31 = 0 → i.val = 0 ∨ j.val = 0 := by decide +kernel

theorem zd {a b : Int} (h : (a * b) % 31 = 0) : a % 31 = 0 ∨ b % 31 = 0 := by
  have ha := Int.emod_nonneg a (b := 31) (by omega)
  have hb := Int.emod_nonneg b (b := 31) (by omega)
  have ha' := Int.emod_lt_of_pos a (b := 31) (by omega)
  have hb' := Int.emod_lt_of_pos b (b := 31) (by omega)
  rw [Int.mul_emod] at h
  obtain ⟨i, hi⟩ := Int.eq_ofNat_of_zero_le ha
  obtain ⟨j, hj⟩ := Int.eq_ofNat_of_zero_le hb
  rw [hi, hj] at h ⊢
  have := zd_fin ⟨i, by omega⟩ ⟨j, by omega⟩ (by simp only; exact_mod_cast h)
  simp only at this
  omega

theorem zd_ok {a b : Int} (ha : okF a = true) (hb : okF b = true) : (a * b) % 31 = 0 ↔ a = 0 ∨ b = 0 := by
  rw [okF_iff] at ha hb
  constructor
  · intro h
    rcases zd h with h | h
    · exact .inl (by omega)
    · exact .inr (by omega)
  · rintro (rfl | rfl)
    · rw [Int.zero_mul]; rfl
    · rw [Int.mul_zero]; rfl

/-- Of two that are the same, times one that is not 0, both are. -/
theorem cancel {a b c : Int} (ha : okF a = true) (hb : okF b = true) (hc : okF c = true) (h0 : b ≠ 0) : (c * b) % 31 = (a * b) % 31 ↔ c = a := by
  constructor
  · intro h
    have h1 : ((c - a) * b) % 31 = 0 := by
      rw [Int.sub_mul]
      exact Int.emod_eq_emod_iff_emod_sub_eq_zero.1 h
    rw [okF_iff] at ha hb hc
    rcases zd h1 with h2 | h2 <;> omega
  · rintro rfl; rfl

theorem squares {a b : Int} (ha : okF a = true) (hb : okF b = true) : (a * a) % 31 = (b * b) % 31 ↔ a = b ∨ (a + b) % 31 = 0 := by
  have e : (a - b) * (a + b) = a * a - b * b := by rw [Int.sub_mul, Int.mul_add, Int.mul_add, Int.mul_comm b a]; omega
  constructor
  · intro h
    have h1 : ((a - b) * (a + b)) % 31 = 0 := by
      rw [e]
      exact Int.emod_eq_emod_iff_emod_sub_eq_zero.1 h
    rw [okF_iff] at ha hb
    rcases zd h1 with h2 | h2
    · exact .inl (by omega)
    · exact .inr h2
  · rintro (rfl | h)
    · rfl
    · rw [Int.emod_eq_emod_iff_emod_sub_eq_zero, ← e, Int.mul_emod, h, Int.mul_zero]; rfl

/-- The inverse of a number of the field; of 0 it is 0. -/
def inv31 (a : Int) : Int := (([0, 1, 16, 21, 8, 25, 26, 9, 4, 7, 28, 17, 13, 12, 20, 29, 2, 11, 19, 18, 14, 3, 24, 27, 22, 5, 6, 23, 10, 15, 30] : List Int)).getD a.toNat 0

theorem inv_fin : ∀ i : Fin 31, okF (inv31 (i.val : Int)) = true ∧ (i.val = 0 ∨ ((i.val : Int) * inv31 (i.val : Int)) % 31 = 1) ∧ inv31 (inv31 (i.val : Int)) = (i.val : Int) := by decide +kernel

theorem inv_ok {a : Int} (ha : okF a = true) : okF (inv31 a) = true := by
  rw [okF_iff] at ha
  obtain ⟨i, rfl⟩ := Int.eq_ofNat_of_zero_le ha.1
  exact (inv_fin ⟨i, by omega⟩).1
theorem inv_one {a : Int} (ha : okF a = true) (h0 : a ≠ 0) : (a * inv31 a) % 31 = 1 := by
  rw [okF_iff] at ha
  obtain ⟨i, rfl⟩ := Int.eq_ofNat_of_zero_le ha.1
  rcases (inv_fin ⟨i, by omega⟩).2.1 with h | h
  · simp only at h; omega
  · exact h
theorem inv_inv {a : Int} (ha : okF a = true) : inv31 (inv31 a) = a := by
  rw [okF_iff] at ha
  obtain ⟨i, rfl⟩ := Int.eq_ofNat_of_zero_le ha.1
  exact (inv_fin ⟨i, by omega⟩).2.2
theorem inv_ne {a : Int} (ha : okF a = true) (h0 : a ≠ 0) : inv31 a ≠ 0 := by
  intro h
  have := inv_one ha h0
  rw [h, Int.mul_zero] at this
  cases this
/-- The one number with which it is 1. -/
theorem inv_only {a b : Int} (ha : okF a = true) (hb : okF b = true) (h : (a * b) % 31 = 1) : b = inv31 a := by
  have h0 : a ≠ 0 := by rintro rfl; rw [Int.zero_mul] at h; cases h
  refine (cancel (inv_ok ha) ha hb h0).1 ?_
  rw [Int.mul_comm b a, h, Int.mul_comm, inv_one ha h0]
theorem inv_mul {a b : Int} (ha : okF a = true) (hb : okF b = true) (h0 : a ≠ 0) (h1 : b ≠ 0) : inv31 ((a * b) % 31) = (inv31 a * inv31 b) % 31 := by
  refine (inv_only (okF_mod _) (okF_mod _) ?_).symm
  have e : (a * b) * (inv31 a * inv31 b) = (a * inv31 a) * (b * inv31 b) := by
    rw [Int.mul_assoc, Int.mul_assoc]; congr 1
    rw [← Int.mul_assoc, ← Int.mul_assoc]; congr 1; exact Int.mul_comm _ _
  rw [← Int.mul_emod, e, Int.mul_emod, inv_one ha h0, inv_one hb h1]; rfl


end Go.Proofs.Ytnkdgonekadibaa.P
