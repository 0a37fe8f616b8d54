/- Which lists are polynomials or share vectors, of the program and of the reference. Conditions: lists of fewer than 2^40 numbers. -/
import Derived.Test.YtnkdgonekadibaaPoly
import Derived.Test.YtnkdgonekadibaaList
import Derived.Test.YtnkdgonekadibaaHand
import Derived.Test.YtnkdgonekadibaaPx5
namespace Go.Proofs.Ytnkdgonekadibaa.P
open Go.RowKit Go.Proofs.Ytnkdgonekadibaa.Num Go.Proofs.YtnkdgonekadibaaW.PrintWords

theorem okN_okF : okN = okF := rfl
def polyOk (l : List Int) : Bool := allOk l && decide (l.length ≤ 9)
def shareOk (l : List Int) : Bool := allOk l && decide (l.length ≤ 20)
theorem polyOk_iff {l : List Int} : polyOk l = true ↔ allOk l = true ∧ l.length ≤ 9 := by simp [polyOk]
theorem shareOk_iff {l : List Int} : shareOk l = true ↔ allOk l = true ∧ l.length ≤ 20 := by simp [shareOk]
theorem allOk_drop {l : List Int} {i : Nat} (h : i < l.length) : allOk (l.drop i) = (okF l[i] && allOk (l.drop (i + 1))) := by
  rw [List.drop_eq_getElem_cons h]; rfl

theorem sShareOk_loop (l : List Int) (hm : l.length < 1099511627776) (d : Nat) : ∀ i : Nat, i + d = l.length → Ev (fun k => spec_ShareOk.l0 k l (i : Int)) (allOk (l.drop i) && decide (l.length ≤ 20)) := by
  induction d with
  | zero =>
    intro i hi
    obtain rfl : i = l.length := by omega
    refine ⟨1, fun k hk => ?_⟩
    obtain ⟨k, rfl⟩ : ∃ m, k = m + 1 := ⟨k - 1, by omega⟩
    simp only [spec_ShareOk.l0]
    rw [if_neg (by omega), List.drop_length]
    congr 1
    simp [allOk]; omega
  | succ d ih =>
    intro i hi
    obtain ⟨K, h⟩ := ih (i + 1) (by omega)
    refine ⟨K + 1, fun k hk => ?_⟩
    obtain ⟨k, rfl⟩ : ∃ m, k = m + 1 := ⟨k - 1, by omega⟩
    have hia : i < l.length := by omega
    simp only [spec_ShareOk.l0]
    rw [if_pos (by omega), if_pos (by omega), rd_lt hia, sFieldOk, allOk_drop hia]
    simp only [Option.bind_some]
    cases ho : okF l[i]
    · simp
    · rw [if_pos rfl, w64 (by omega)]
      exact (h k (by omega)).trans (by simp)
theorem sShareOk (l : List Int) (hm : l.length < 1099511627776) : Ev (fun k => spec_ShareOk.f k l) (shareOk l) := sShareOk_loop l hm l.length 0 (by omega)
theorem elementsOk_eq (l : List Int) (a : Nat) : impl_elementsOk.f l (a : Int) = some (allOk l && decide (l.length ≤ a)) := by
  unfold impl_elementsOk.f allOk
  rw [okN_okF, Bool.and_comm]
  congr 2
  simp

end Go.Proofs.Ytnkdgonekadibaa.P
