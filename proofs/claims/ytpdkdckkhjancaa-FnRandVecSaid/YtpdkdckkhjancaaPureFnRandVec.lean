/- Numbers are drawn one by one: RandVec is RandAt at each place, and its beginning is RandVec of fewer. No condition. -/
import Derived.Test.YtpdkdckkhjancaaRVec
import Derived.Test.YtpdkdckkhjancaaRDraw
import Derived.Test.YtpdkdckkhjancaaPx11
namespace Go.Proofs.Ytpdkdckkhjancaa.Pure
open Go.RowKit Go.Proofs.Ytpdkdckkhjancaa.P Go.Proofs.Ytpdkdckkhjancaa.Num Go.Proofs.YtpdkdckkhjancaaW.PrintWords Go.Proofs.YtpdkdckkhjancaaW.PrintLast
set_option linter.unusedSimpArgs false
set_option linter.unusedVariables false

theorem vec_at {s : Int} {m i : Nat} (hs : seedIn s = true) (hm : m ≤ 20) (hi : i < m) : rd (drawn s m) (i : Int) = randAt s (i : Int) := by
  rw [rd_lt (by rw [drawn_length]; exact hi)]
  simp only [drawn, List.getElem_map, List.getElem_range]
  rw [rndI_eq (seedIn_iff.1 hs) (by omega), randAt_in (seedIn_iff.1 hs) (by omega)]
theorem drawn_take (s : Int) {m k : Nat} (h : k ≤ m) : (drawn s m).take k = drawn s k := by
  unfold drawn
  rw [← List.map_take, List.take_range, Nat.min_eq_left h]
theorem vec_loop (l1 : List Int) (s : Int) (m : Nat) (hs : seedIn s = true) (hm : m ≤ 20) (d : Nat) : ∀ i : Nat, i + d = m → Ev (fun k => laws_FnRandVec.l0 k l1 s (m : Int) (drawn s m) (i : Int)) true := by
  induction d with
  | zero =>
    intro i hi
    obtain rfl : i = m := by omega
    obtain ⟨t, ht⟩ : ∃ t : Nat, (l1.length : Int) % ((i : Int) + 1) = (t : Int) := ⟨l1.length % (i + 1), by rw [Int.natCast_emod]; rfl⟩
    have ht2 : t ≤ i := by have := Int.emod_lt_of_pos (l1.length : Int) (b := (i : Int) + 1) (by omega); omega
    obtain ⟨K, h⟩ := loInts_ev (drawn s t) (drawn s t) (by rw [drawn_length]; omega)
    refine ⟨K + 1, fun k hk => ?_⟩
    obtain ⟨k, rfl⟩ : ∃ m, k = m + 1 := ⟨k - 1, by omega⟩
    simp only [laws_FnRandVec.l0]
    rw [if_neg (by rw [drawn_length]; omega), w64 (by omega), ht, if_neg (by omega)]
    have hv : impl_RandVec.f s (t : Int) = some (drawn s t, true) := by
      unfold impl_RandVec.f; rw [hs, placeIn_iff.2 (by omega)]; simp
    rw [hv]
    simp only [Option.bind_some]
    rw [if_pos (by rw [drawn_length]), if_pos trivial, if_pos (by omega), if_pos (by rw [drawn_length]; omega), Int.toNat_natCast, drawn_take s ht2]
    have := h k (by omega)
    dsimp only at this
    rw [this]
    simp
  | succ d ih =>
    intro i hi
    obtain ⟨K, h⟩ := ih (i + 1) (by omega)
    refine ⟨K + 1, fun k hk => ?_⟩
    obtain ⟨k, rfl⟩ : ∃ m, k = m + 1 := ⟨k - 1, by omega⟩
    simp only [laws_FnRandVec.l0]
    rw [if_pos (by rw [drawn_length]; omega), if_pos (by omega), iRandAt, vec_at hs hm (by omega)]
    simp only [Option.bind_some, if_true, iFieldOk, randAt_ok]
    rw [w64 (by omega)]
    exact h k (by omega)

theorem FnRandVec : laws_FnRandVec.Pure := by
  intro l l1 _ _ hb _ _ _
  obtain ⟨a, b, e, _⟩ := drawRandVec_ev (bytes_of hb)
  obtain ⟨K1, h1⟩ := sRandVec a b
  dsimp only at h1
  cases h : (seedIn a && placeIn b)
  · rw [h] at h1
    simp only [Bool.false_eq_true, if_false] at h1
    have hv : impl_RandVec.f a b = some ([], false) := by unfold impl_RandVec.f; rw [h]; rfl
    obtain ⟨K2, h2⟩ := loInts_ev [] [] (by simp)
    dsimp only at h2
    refine ⟨K1 + K2 + 5, ?_⟩
    unfold laws_FnRandVec.f
    by_cases hl : (l.length : Int) > 1048576
    · rw [if_pos hl]; rfl
    rw [if_neg hl]
    simp only [laws_FnRandVec.j0]
    by_cases hl1 : (l1.length : Int) > 1048576
    · simp [hl1]
    simp only [hl1, decide_false, Bool.false_eq_true, if_false]
    rw [e _ (by omega)]
    simp only [Option.bind_some]
    rw [h1 _ (by omega), hv]
    simp only [Option.bind_some, bne_self_eq_false, Bool.false_eq_true, if_false]
    rw [h2 _ (by omega)]
    simp only [Option.bind_some, decide_true, if_true, Bool.not_false, laws_FnRandVec.j1, beq_self_eq_true]
    rw [h2 _ (by omega)]
    rfl
  · rw [h] at h1
    simp only [if_true] at h1
    have hv : impl_RandVec.f a b = some (drawn a b.toNat, true) := by unfold impl_RandVec.f; rw [h]; rfl
    simp only [Bool.and_eq_true] at h
    have hb2 := placeIn_iff.1 h.2
    obtain ⟨m, rfl⟩ := Int.eq_ofNat_of_zero_le hb2.1
    rw [Int.toNat_natCast] at h1 hv
    obtain ⟨K2, h2⟩ := loInts_ev (drawn a m) (drawn a m) (by rw [drawn_length]; omega)
    dsimp only at h2
    obtain ⟨K3, h3⟩ := vec_loop l1 a m h.1 (by omega) m 0 (by omega)
    dsimp only at h3
    refine ⟨K1 + K2 + K3 + 5, ?_⟩
    unfold laws_FnRandVec.f
    by_cases hl : (l.length : Int) > 1048576
    · rw [if_pos hl]; rfl
    rw [if_neg hl]
    simp only [laws_FnRandVec.j0]
    by_cases hl1 : (l1.length : Int) > 1048576
    · simp [hl1]
    simp only [hl1, decide_false, Bool.false_eq_true, if_false]
    rw [e _ (by omega)]
    simp only [Option.bind_some]
    rw [h1 _ (by omega), hv]
    simp only [Option.bind_some, bne_self_eq_false, Bool.false_eq_true, if_false]
    rw [h2 _ (by omega)]
    simp only [Option.bind_some, decide_true, if_true, Bool.not_true, laws_FnRandVec.j1, Bool.false_eq_true, if_false]
    exact h3 _ (by omega)

end Go.Proofs.Ytpdkdckkhjancaa.Pure
