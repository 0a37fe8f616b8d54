/- The list that loSome makes: as long as asked, each of its numbers in the field. Condition: fewer than 1001 numbers. -/
import Derived.Test.YtdamainjflpgpaaField
import Derived.Test.YtdamainjflpgpaaPx21
namespace Go.Proofs.Ytdamainjflpgpaa.P
open Go.RowKit Go.Proofs.Ytdamainjflpgpaa.Num Go.Proofs.YtdamainjflpgpaaW.PrintWords

theorem loSome_loop (s : Int) (hs : 0 ≤ s ∧ s ≤ 1099511627776) (n : Nat) (hn : n ≤ 1000) (d : Nat) : ∀ (l : List Int) (i : Nat), i + d = n → l.length = i → (∀ x ∈ l, 0 ≤ x ∧ x ≤ 30) → ∃ r, Ev (fun k => laws_loSome.l0 k s (n : Int) l (i : Int)) r ∧ r.length = n ∧ ∀ x ∈ r, 0 ≤ x ∧ x ≤ 30 := by
  induction d with
  | zero =>
    intro l i hi hl h
    refine ⟨l, ⟨1, fun k hk => ?_⟩, by omega, h⟩
    obtain ⟨k, rfl⟩ : ∃ m, k = m + 1 := ⟨k - 1, by omega⟩
    simp only [laws_loSome.l0]
    rw [if_neg (by omega)]
  | succ d ih =>
    intro l i hi hl h
    have m1 : 0 ≤ s * ((i : Int) + 3) ∧ s * ((i : Int) + 3) ≤ 1099511627776 * 1003 := ⟨Int.mul_nonneg hs.1 (by omega), Int.le_trans (Int.mul_le_mul_of_nonneg_right hs.2 (by omega)) (Int.mul_le_mul_of_nonneg_left (by omega) (by omega))⟩
    have m2 : 0 ≤ (i : Int) * (i : Int) ∧ (i : Int) * (i : Int) ≤ 1000 * 1000 := ⟨Int.mul_nonneg (by omega) (by omega), Int.le_trans (Int.mul_le_mul_of_nonneg_right (show (i : Int) ≤ 1000 by omega) (show (0 : Int) ≤ (i : Int) by omega)) (Int.mul_le_mul_of_nonneg_left (show (i : Int) ≤ 1000 by omega) (show (0 : Int) ≤ 1000 by omega))⟩
    obtain ⟨r, ⟨K, hr⟩, lr, hx⟩ := ih (l ++ [(s * ((i : Int) + 3) + (i : Int) * (i : Int)) % 31]) (i + 1) (by omega) (by simp; omega) (by
      intro x hx
      rcases List.mem_append.1 hx with hx | hx
      · exact h x hx
      · rw [List.mem_singleton.1 hx]; omega)
    refine ⟨r, ⟨K + 1, fun k hk => ?_⟩, lr, hx⟩
    obtain ⟨k, rfl⟩ : ∃ m, k = m + 1 := ⟨k - 1, by omega⟩
    simp only [laws_loSome.l0]
    rw [if_pos (by omega), w64 (n := (i : Int) + 3) (by omega), w64 (n := s * ((i : Int) + 3)) (by omega), w64 (n := (i : Int) * (i : Int)) (by omega), w64 (n := _ + _) (by omega), loNum_eq (by omega), w64 (by omega)]
    simp only [Option.bind_some]
    rw [if_pos (by omega)]
    exact hr k (by omega)
theorem loSome_ev (s : Int) (hs : 0 ≤ s ∧ s ≤ 1099511627776) (n : Nat) (hn : n ≤ 1000) : ∃ r, Ev (fun k => laws_loSome.f k s (n : Int)) r ∧ r.length = n ∧ ∀ x ∈ r, 0 ≤ x ∧ x ≤ 30 := loSome_loop s hs n hn n [] 0 (by omega) rfl (by simp)

end Go.Proofs.Ytdamainjflpgpaa.P
