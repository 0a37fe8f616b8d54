/- Numbers: wrapped sums that fit, remainders, exclusive or of small numbers. Plain facts; no condition. -/
import Derived.RowKit3
import Derived.IntWalk
import Derived.OpenShut
import Derived.Laws.BitsLemmas
namespace Go.Proofs.Ytnkdgonekadibaa.Num
open Go.RowKit

theorem w64 {n : Int} (h : -9223372036854775808 ≤ n ∧ n ≤ 9223372036854775807) : wrap64 n = n := by unfold wrap64; omega

theorem tmod_pos {a b : Int} (h : 0 ≤ a) : Int.tmod a b = a % b := Int.tmod_eq_emod_of_nonneg h

theorem tmod31_lo {a : Int} : -30 ≤ Int.tmod a 31 ∧ Int.tmod a 31 ≤ 30 := by
  rcases Int.le_total 0 a with h | h
  · rw [tmod_pos h]; omega
  · have := Int.tmod_eq_emod_of_nonneg (a := -a) (b := 31) (by omega)
    rw [Int.neg_tmod] at this
    omega

/-- What the program does to bring a number into the field is the remainder. -/
theorem elem_eq {n : Int} : Int.tmod (wrap64 (Int.tmod n 31 + 31)) 31 = n % 31 := by
  have hb := @tmod31_lo n
  rw [w64 (by omega), tmod_pos (by omega)]
  rcases Int.le_total 0 n with h | h
  · rw [tmod_pos h]; omega
  · have := Int.tmod_eq_emod_of_nonneg (a := -n) (b := 31) (by omega)
    rw [Int.neg_tmod] at this
    omega

theorem bits_xor (a b : Nat) (ha : a < 2 ^ 62) (hb : b < 2 ^ 62) : 0 ≤ bits .xor .i64 (a : Int) (b : Int) := by
  have hx : a ^^^ b < 2 ^ 62 := Nat.xor_lt_two_pow ha hb
  have hp : 2 ^ IntKind.i64.bits = 18446744073709551616 := rfl
  have ha' : a % 2 ^ IntKind.i64.bits = a := Nat.mod_eq_of_lt (by omega)
  have hb' : b % 2 ^ IntKind.i64.bits = b := Nat.mod_eq_of_lt (by omega)
  simp only [bits, BitVec.ofInt_natCast, BitVec.toNat_xor, BitVec.toNat_ofNat, ha', hb']
  rw [IntWalk.i64_in _ (by omega)]
  omega

theorem xor_nonneg {x y : Int} (hx : 0 ≤ x ∧ x < 4611686018427387904) (hy : 0 ≤ y ∧ y < 4611686018427387904) : 0 ≤ bits .xor .i64 x y := by
  obtain ⟨a, rfl⟩ := Int.eq_ofNat_of_zero_le hx.1
  obtain ⟨b, rfl⟩ := Int.eq_ofNat_of_zero_le hy.1
  exact bits_xor a b (by omega) (by omega)

end Go.Proofs.Ytnkdgonekadibaa.Num
