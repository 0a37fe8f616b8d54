/- Neither seed alone tells what both draw: of the seeds 0 to 30 just one, in the place of either, gives a number; and the order does not matter. No condition. -/
import Derived.Test.YtpdkdckkhjancaaRand
import Derived.Test.YtpdkdckkhjancaaRDraw
import Derived.Test.YtpdkdckkhjancaaPx9
namespace Go.Proofs.Ytpdkdckkhjancaa.Pure
open Go.RowKit Go.Proofs.Ytpdkdckkhjancaa.P Go.Proofs.Ytpdkdckkhjancaa.Num Go.Proofs.YtpdkdckkhjancaaW.PrintWords Go.Proofs.YtpdkdckkhjancaaW.PrintLast
set_option linter.unusedSimpArgs false
set_option linter.unusedVariables false

theorem both_loop (a b j n v : Int) (d : Nat) : ∀ (i c1 c2 : Nat), i + d = 31 → c1 ≤ i → c2 ≤ i →
    Ev (fun k => laws_FnRandBoth.l0 k a b j n v (c1 : Int) (c2 : Int) (i : Int))
      (if n = fsum (randAt a j) (randAt b j) then (if randBoth b a j = n then (if ((c1 + cnt (fun s => randBoth s b j == v) i d : Nat) : Int) = 1 then ((c2 + cnt (fun s => randBoth a s j == v) i d : Nat) : Int) == 1 else false) else false) else false) := by
  induction d with
  | zero =>
    intro i c1 c2 hi h1 h2
    refine ⟨2, fun k hk => ?_⟩
    obtain ⟨k, rfl⟩ : ∃ m, k = m + 1 := ⟨k - 1, by omega⟩
    simp only [laws_FnRandBoth.l0]
    rw [if_neg (by omega), iRandAt, iRandAt]
    simp only [Option.bind_some, iFieldSum]
    rw [iRandBoth _ _ _ _ (by omega)]
    simp only [Option.bind_some, cnt, Nat.add_zero]
    repeat' split
    all_goals first | rfl | (simp only [*]; rfl) | simp [*]
  | succ d ih =>
    intro i c1 c2 hi h1 h2
    have w1 : wrap64 ((c1 : Int) + 1) = ((c1 + 1 : Nat) : Int) := by rw [w64 (by omega)]; omega
    have w2 : wrap64 ((c2 : Int) + 1) = ((c2 + 1 : Nat) : Int) := by rw [w64 (by omega)]; omega
    have w3 : wrap64 ((i : Int) + 1) = ((i + 1 : Nat) : Int) := by rw [w64 (by omega)]; omega
    obtain ⟨K1, k1⟩ := ih (i + 1) (c1 + 1) (c2 + 1) (by omega) (by omega) (by omega)
    obtain ⟨K2, k2⟩ := ih (i + 1) (c1 + 1) c2 (by omega) (by omega) (by omega)
    obtain ⟨K3, k3⟩ := ih (i + 1) c1 (c2 + 1) (by omega) (by omega) (by omega)
    obtain ⟨K4, k4⟩ := ih (i + 1) c1 c2 (by omega) (by omega) (by omega)
    refine ⟨K1 + K2 + K3 + K4 + 2, fun k hk => ?_⟩
    obtain ⟨k, rfl⟩ : ∃ m, k = m + 1 := ⟨k - 1, by omega⟩
    simp only [laws_FnRandBoth.l0]
    rw [if_pos (by omega), iRandBoth _ _ _ _ (by omega), iRandBoth _ _ _ _ (by omega), w1, w2, w3]
    simp only [Option.bind_some, cnt]
    have s1 : ∀ x y : Nat, c1 + 1 + x = c1 + (1 + x) := fun x _ => by omega
    by_cases e1 : randBoth (i : Int) b j = v <;> by_cases e2 : randBoth a (i : Int) j = v
    · rw [if_pos e1, if_pos e2]
      refine (k1 k (by omega)).trans ?_
      simp only [e1, e2, beq_self_eq_true, if_true, Nat.add_assoc]
    · rw [if_pos e1, if_neg e2]
      refine (k2 k (by omega)).trans ?_
      simp only [e1, beq_self_eq_true, beq_eq_false_iff_ne.2 e2, Bool.false_eq_true, if_false, if_true, Nat.add_assoc, Nat.zero_add]
    · rw [if_neg e1, if_pos e2]
      refine (k3 k (by omega)).trans ?_
      simp only [e2, beq_self_eq_true, beq_eq_false_iff_ne.2 e1, Bool.false_eq_true, if_false, if_true, Nat.add_assoc, Nat.zero_add]
    · rw [if_neg e1, if_neg e2]
      refine (k4 k (by omega)).trans ?_
      simp only [beq_eq_false_iff_ne.2 e1, beq_eq_false_iff_ne.2 e2, Bool.false_eq_true, if_false, Nat.zero_add]

theorem both_in {a b j : Int} (ha : 0 ≤ a ∧ a ≤ 999) (hb : 0 ≤ b ∧ b ≤ 999) (hj : 0 ≤ j ∧ j ≤ 20) : randBoth a b j = (rnd a j + rnd b j) % 31 := by
  unfold randBoth; rw [seedIn_iff.2 ha, seedIn_iff.2 hb, placeIn_iff.2 hj]; rfl

theorem FnRandBoth : laws_FnRandBoth.Pure := by
  intro l l1 _ _ hb _ _ _
  obtain ⟨a, b, j, e, _⟩ := drawRandBoth_ev (bytes_of hb)
  obtain ⟨v, hv⟩ : ∃ v : Int, (l1.length : Int) % 31 = v := ⟨_, rfl⟩
  have hv2 : 0 ≤ v ∧ v ≤ 30 := by omega
  obtain ⟨K, h⟩ := both_loop a b j (randBoth a b j) v 31 0 0 0 (by omega) (by omega) (by omega)
  refine ⟨K + 5, ?_⟩
  unfold laws_FnRandBoth.f
  by_cases hl : (l.length : Int) > 1048576
  · rw [if_pos hl]; rfl
  rw [if_neg hl]
  simp only [laws_FnRandBoth.j0]
  by_cases hl1 : (l1.length : Int) > 1048576
  · simp [hl1]
  simp only [hl1, decide_false, Bool.false_eq_true, if_false]
  rw [e _ (by omega)]
  simp only [Option.bind_some]
  rw [iRandBoth _ _ _ _ (by omega), sRandBoth _ _ _ _ (by omega)]
  simp only [Option.bind_some, if_true]
  have hr : laws_FnRandBoth.j1 (K + 4) l1 a b j (randBoth a b j) true = some true := by
    simp only [laws_FnRandBoth.j1, if_true]; rw [sRandBoth _ _ _ _ (by omega)]; simp
  by_cases h1 : a < 0
  · rw [if_pos h1, hr]
  by_cases h2 : a > 999
  · rw [if_neg h1, if_pos h2, hr]
  by_cases h3 : b < 0
  · rw [if_neg h1, if_neg h2, if_pos h3, hr]
  by_cases h4 : b > 999
  · rw [if_neg h1, if_neg h2, if_neg h3, if_pos h4, hr]
  by_cases h5 : j < 0
  · rw [if_neg h1, if_neg h2, if_neg h3, if_neg h4, if_pos h5, hr]
  by_cases h6 : j > 20
  · rw [if_neg h1, if_neg h2, if_neg h3, if_neg h4, if_neg h5, decide_eq_true h6, hr]
  rw [if_neg h1, if_neg h2, if_neg h3, if_neg h4, if_neg h5, decide_eq_false h6]
  simp only [laws_FnRandBoth.j1, Bool.false_eq_true, if_false]
  rw [loNum_eq (by omega), hv]
  simp only [Option.bind_some]
  refine (h (K + 3) (by omega)).trans ?_
  have hja : 0 ≤ j ∧ j ≤ 20 := by omega
  have ha : 0 ≤ a ∧ a ≤ 999 := by omega
  have hb' : 0 ≤ b ∧ b ≤ 999 := by omega
  have ra := okF_iff.1 (rnd_ok a j)
  have rb := okF_iff.1 (rnd_ok b j)
  rw [cnt_congr (q := fun t => rnd t j == (v - rnd b j) % 31) (fun i hi => by
      rw [both_in (by omega) hb' hja]
      have ri := okF_iff.1 (rnd_ok (i : Int) j)
      rw [Bool.eq_iff_iff]; simp only [beq_iff_eq]; omega) 31 0 (by omega), one_seed hja (by omega)]
  rw [cnt_congr (q := fun t => rnd t j == (v - rnd a j) % 31) (fun i hi => by
      rw [both_in ha (by omega) hja]
      have ri := okF_iff.1 (rnd_ok (i : Int) j)
      rw [Bool.eq_iff_iff]; simp only [beq_iff_eq]; omega) 31 0 (by omega), one_seed hja (by omega)]
  rw [both_in ha hb' hja, both_in hb' ha hja, randAt_in ha hja, randAt_in hb' hja, fsum_ok (rnd_ok _ _) (rnd_ok _ _), if_pos rfl, if_pos (by rw [Int.add_comm])]
  rfl

end Go.Proofs.Ytpdkdckkhjancaa.Pure
