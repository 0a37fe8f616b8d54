/- Each number is drawn by just one of the seeds 0 to 30 at a drawn place. No condition. -/
import Derived.Test.YtpdkdckkhjancaaRand
import Derived.Test.YtpdkdckkhjancaaRDraw
import Derived.Test.YtpdkdckkhjancaaPx7
namespace Go.Proofs.Ytpdkdckkhjancaa.Pure
open Go.RowKit Go.Proofs.Ytpdkdckkhjancaa.P Go.Proofs.Ytpdkdckkhjancaa.Num Go.Proofs.YtpdkdckkhjancaaW.PrintWords Go.Proofs.YtpdkdckkhjancaaW.PrintLast
set_option linter.unusedSimpArgs false
set_option linter.unusedVariables false

theorem even_loop (j n : Int) (d : Nat) : ∀ (i c : Nat), i + d = 31 → c ≤ i → Ev (fun k => laws_FnRandEven.l0 k j n (c : Int) (i : Int)) (((c + cnt (fun s => randAt s j == n) i d : Nat) : Int) == 1) := by
  induction d with
  | zero =>
    intro i c hi hc
    refine ⟨1, fun k hk => ?_⟩
    obtain ⟨k, rfl⟩ : ∃ m, k = m + 1 := ⟨k - 1, by omega⟩
    simp only [laws_FnRandEven.l0]
    rw [if_neg (by omega)]; rfl
  | succ d ih =>
    intro i c hi hc
    by_cases e : randAt (i : Int) j = n
    · obtain ⟨K, h⟩ := ih (i + 1) (c + 1) (by omega) (by omega)
      refine ⟨K + 1, fun k hk => ?_⟩
      obtain ⟨k, rfl⟩ : ∃ m, k = m + 1 := ⟨k - 1, by omega⟩
      simp only [laws_FnRandEven.l0]
      rw [if_pos (by omega), iRandAt]
      simp only [Option.bind_some]
      rw [if_pos e, w64 (by omega), w64 (by omega)]
      refine (h k (by omega)).trans ?_
      rw [cnt]; simp only [e, beq_self_eq_true, if_true]; congr 3; omega
    · obtain ⟨K, h⟩ := ih (i + 1) c (by omega) (by omega)
      refine ⟨K + 1, fun k hk => ?_⟩
      obtain ⟨k, rfl⟩ : ∃ m, k = m + 1 := ⟨k - 1, by omega⟩
      simp only [laws_FnRandEven.l0]
      rw [if_pos (by omega), iRandAt]
      simp only [Option.bind_some]
      rw [if_neg e, w64 (by omega)]
      refine (h k (by omega)).trans ?_
      rw [cnt]; simp only [beq_eq_false_iff_ne.2 e, Bool.false_eq_true, if_false]; congr 3; omega

theorem FnRandEven : laws_FnRandEven.Pure := by
  intro l _ _ hb
  obtain ⟨s, j, e, _⟩ := drawRandAt_ev (bytes_of hb)
  obtain ⟨K, h⟩ := even_loop j (randAt s j) 31 0 0 (by omega) (by omega)
  refine ⟨K + 2, ?_⟩
  unfold laws_FnRandEven.f
  by_cases hl : (l.length : Int) > 1048576
  · rw [if_pos hl]
  rw [if_neg hl, e _ (by omega)]
  simp only [Option.bind_some, iRandAt, sRandAt, if_true]
  have hr : laws_FnRandEven.j0 (K + 2) s j (randAt s j) true = some true := by simp [laws_FnRandEven.j0, sRandAt]
  by_cases h1 : s < 0
  · rw [if_pos h1, hr]
  by_cases h2 : s > 999
  · rw [if_neg h1, if_pos h2, hr]
  by_cases h3 : j < 0
  · rw [if_neg h1, if_neg h2, if_pos h3, hr]
  by_cases h4 : j > 20
  · rw [if_neg h1, if_neg h2, if_neg h3, decide_eq_true h4, hr]
  rw [if_neg h1, if_neg h2, if_neg h3, decide_eq_false h4]
  simp only [laws_FnRandEven.j0, Bool.false_eq_true, if_false]
  refine (h (K + 1) (by omega)).trans ?_
  have hk := randAt_ok s j
  rw [okF_iff] at hk
  rw [cnt_congr (q := fun t => rnd t j == randAt s j) (fun i hi => by rw [randAt_in (by omega) (by omega)]) 31 0 (by omega), one_seed (by omega) hk]
  rfl

end Go.Proofs.Ytpdkdckkhjancaa.Pure
