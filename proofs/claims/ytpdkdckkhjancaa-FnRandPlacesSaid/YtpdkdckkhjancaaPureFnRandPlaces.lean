/- The seeds 0 to 30 draw themselves at place 0; out of range 0 is drawn; a draw is a number of the field. No condition. -/
import Derived.Test.YtpdkdckkhjancaaRand
import Derived.Test.YtpdkdckkhjancaaRDraw
import Derived.Test.YtpdkdckkhjancaaPx8
namespace Go.Proofs.Ytpdkdckkhjancaa.Pure
open Go.RowKit Go.Proofs.Ytpdkdckkhjancaa.P Go.Proofs.Ytpdkdckkhjancaa.Num Go.Proofs.YtpdkdckkhjancaaW.PrintWords Go.Proofs.YtpdkdckkhjancaaW.PrintLast
set_option linter.unusedSimpArgs false
set_option linter.unusedVariables false

theorem places_loop (n : Int) (hn : okF n = true) (d : Nat) : ∀ i : Nat, i + d = 31 → Ev (fun k => laws_FnRandPlaces.l0 k n (i : Int)) true := by
  induction d with
  | zero =>
    intro i hi
    refine ⟨1, fun k hk => ?_⟩
    obtain ⟨k, rfl⟩ : ∃ m, k = m + 1 := ⟨k - 1, by omega⟩
    simp only [laws_FnRandPlaces.l0]
    rw [if_neg (by omega), iRandAt, iRandAt, iRandAt]
    simp only [Option.bind_some, iFieldOk, hn]
    rfl
  | succ d ih =>
    intro i hi
    obtain ⟨K, h⟩ := ih (i + 1) (by omega)
    refine ⟨K + 1, fun k hk => ?_⟩
    obtain ⟨k, rfl⟩ : ∃ m, k = m + 1 := ⟨k - 1, by omega⟩
    simp only [laws_FnRandPlaces.l0]
    rw [if_pos (by omega), iRandAt, randAt_in (by omega) (by omega)]
    simp only [Option.bind_some]
    rw [if_pos (by unfold rnd; omega), w64 (by omega)]
    exact h k (by omega)

theorem FnRandPlaces : laws_FnRandPlaces.Pure := by
  intro l _ _ hb
  obtain ⟨s, j, e, _⟩ := drawRandAt_ev (bytes_of hb)
  obtain ⟨K, h⟩ := places_loop (randAt s j) (randAt_ok s j) 31 0 (by omega)
  refine ⟨K + 1, ?_⟩
  unfold laws_FnRandPlaces.f
  by_cases hl : (l.length : Int) > 1048576
  · rw [if_pos hl]
  rw [if_neg hl, e _ (by omega)]
  simp only [Option.bind_some, iRandAt, sRandAt, if_true]
  exact h (K + 1) (by omega)

end Go.Proofs.Ytpdkdckkhjancaa.Pure
