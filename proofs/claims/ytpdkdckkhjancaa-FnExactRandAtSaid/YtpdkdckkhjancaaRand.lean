/- What the draws are: of the program and of the reference, at every seed and place; each number is drawn by one of the seeds 0 to 30. No condition but that arguments are of the kind int. -/
import Derived.Test.YtpdkdckkhjancaaField
import Derived.Test.YtpdkdckkhjancaaHandRand
import Derived.Test.YtpdkdckkhjancaaPx1
import Derived.Test.YtpdkdckkhjancaaPx2
namespace Go.Proofs.Ytpdkdckkhjancaa.P
open Go.RowKit Go.Proofs.Ytpdkdckkhjancaa.Num Go.Proofs.YtpdkdckkhjancaaW.PrintWords

/-- A draw. -/
def rnd (s j : Int) : Int := (s + 7 * (s / 31) + 11 * (j * j) + 26 * (j * (s % 31)) + 3 * j) % 31
def randAt (s j : Int) : Int := if seedIn s && placeIn j then rnd s j else 0
theorem seedIn_iff {a : Int} : seedIn a = true ↔ 0 ≤ a ∧ a ≤ 999 := by simp [seedIn]
theorem placeIn_iff {a : Int} : placeIn a = true ↔ 0 ≤ a ∧ a ≤ 20 := by simp [placeIn]
theorem rnd_ok (s j : Int) : okF (rnd s j) = true := okF_mod _
theorem randAt_ok (s j : Int) : okF (randAt s j) = true := by unfold randAt; split; exact rnd_ok _ _; rfl

theorem prod_rng {a b A B : Int} (ha : 0 ≤ a ∧ a ≤ A) (hb : 0 ≤ b ∧ b ≤ B) : 0 ≤ a * b ∧ a * b ≤ A * B :=
  ⟨Int.mul_nonneg ha.1 hb.1, Int.mul_le_mul ha.2 hb.2 hb.1 (by omega)⟩

theorem rndI_eq {s j : Int} (hs : 0 ≤ s ∧ s ≤ 999) (hj : 0 ≤ j ∧ j ≤ 20) : rndI s j = rnd s j := by
  have h1 := prod_rng hj hj
  have h2 := prod_rng (a := 11 * j) (A := 220) (B := 20) (by omega) hj
  have h3 := prod_rng (a := 26 * j) (A := 520) (b := s % 31) (B := 30) (by omega) (by omega)
  have h4 := prod_rng (a := j) (A := 20) (b := s % 31) (B := 30) (by omega) (by omega)
  have e2 : 11 * j * j = 11 * (j * j) := Int.mul_assoc _ _ _
  have e3 : 26 * j * (s % 31) = 26 * (j * (s % 31)) := Int.mul_assoc _ _ _
  unfold rndI rnd
  rw [Int.tdiv_eq_ediv_of_nonneg hs.1, tmod_pos hs.1]
  rw [w64 (n := s / 31) (by omega), w64 (n := 7 * (s / 31)) (by omega), w64 (n := s + 7 * (s / 31)) (by omega), w64 (n := 11 * j) (by omega), w64 (n := 11 * j * j) (by omega), w64 (n := 26 * j) (by omega), w64 (n := 26 * j * (s % 31)) (by omega), w64 (n := 3 * j) (by omega)]
  rw [e2, e3]
  rw [w64 (n := s + 7 * (s / 31) + 11 * (j * j)) (by omega), w64 (n := s + 7 * (s / 31) + 11 * (j * j) + 26 * (j * (s % 31))) (by omega), w64 (by omega), tmod_pos (by omega)]

theorem l4Seed_eq (s j : Int) : spec_l4Seed.f s j = some (seedIn s && placeIn j) := by
  unfold spec_l4Seed.f
  simp only [l6In_eq, Option.bind_some]
  change (if seedIn s = true then _ else _) = _
  cases seedIn s <;> simp [placeIn]
theorem drawOk_eq (s j : Int) : impl_drawOk.f s j = some (seedIn s && placeIn j) := by
  unfold impl_drawOk.f impl_seedOk.f
  simp only [within_eq, Option.bind_some]
  change (if seedIn s = true then _ else _) = _
  cases seedIn s <;> simp [placeIn]
theorem l4At_eq {s j : Int} (hs : 0 ≤ s ∧ s ≤ 999) (hj : 0 ≤ j ∧ j ≤ 20) : spec_l4At.f s j = some (rnd s j) := by
  have h1 := prod_rng hj hj
  have h3 := prod_rng (a := j) (A := 20) (b := s % 31) (B := 30) (by omega) (by omega)
  unfold spec_l4At.f rnd
  rw [Int.tdiv_eq_ediv_of_nonneg hs.1, tmod_pos hs.1]
  rw [w64 (n := s / 31) (by omega), w64 (n := s / 31 * 7) (by omega), w64 (n := s + s / 31 * 7) (by omega), w64 (n := j * j) (by omega), w64 (n := j * j * 11) (by omega), w64 (n := j * (s % 31)) (by omega), w64 (n := j * (s % 31) * 26) (by omega), w64 (n := j * 3) (by omega), w64 (n := s + s / 31 * 7 + j * j * 11) (by omega), w64 (n := s + s / 31 * 7 + j * j * 11 + j * (s % 31) * 26) (by omega), w64 (by omega), tmod_pos (by omega)]
  congr 2; omega
theorem sRandAt (s j : Int) : spec_RandAt.f s j = some (randAt s j) := by
  unfold spec_RandAt.f randAt
  rw [l4Seed_eq]
  simp only [Option.bind_some]
  cases h : (seedIn s && placeIn j)
  · simp
  · simp only [Bool.and_eq_true] at h
    rw [if_pos rfl, if_pos rfl, l4At_eq (seedIn_iff.1 h.1) (placeIn_iff.1 h.2)]; rfl
theorem iRandAt (s j : Int) : impl_RandAt.f s j = some (randAt s j) := by
  unfold impl_RandAt.f randAt
  rw [drawOk_eq]
  simp only [Option.bind_some]
  cases h : (seedIn s && placeIn j)
  · simp
  · simp only [Bool.and_eq_true] at h
    rw [if_pos rfl, if_pos rfl, ← rndI_eq (seedIn_iff.1 h.1) (placeIn_iff.1 h.2)]; rfl

/-- Which of the seeds from s on, d of them, draw the number v at a place. -/
def cnt (p : Int → Bool) : Nat → Nat → Nat
  | _, 0 => 0
  | s, d + 1 => (if p (s : Int) then 1 else 0) + cnt p (s + 1) d
theorem cnt_congr {p q : Int → Bool} (h : ∀ i : Nat, i < 31 → p (i : Int) = q (i : Int)) : ∀ d s, s + d ≤ 31 → cnt p s d = cnt q s d := by
  intro d
  induction d with
  | zero => intro s _; rfl
  | succ d ih => intro s hs; unfold cnt; rw [h s (by omega), ih (s + 1) (by omega)]
theorem one_fin : ∀ j : Fin 21, ∀ v : Fin 31, cnt (fun s => rnd s (j.val : Int) == (v.val : Int)) 0 31 = 1 := by decide +kernel
theorem one_seed {j v : Int} (hj : 0 ≤ j ∧ j ≤ 20) (hv : 0 ≤ v ∧ v ≤ 30) : cnt (fun s => rnd s j == v) 0 31 = 1 := by
  obtain ⟨a, rfl⟩ := Int.eq_ofNat_of_zero_le hj.1
  obtain ⟨b, rfl⟩ := Int.eq_ofNat_of_zero_le hv.1
  exact one_fin ⟨a, by omega⟩ ⟨b, by omega⟩
theorem randAt_in {s j : Int} (hs : 0 ≤ s ∧ s ≤ 999) (hj : 0 ≤ j ∧ j ≤ 20) : randAt s j = rnd s j := by
  unfold randAt; rw [seedIn_iff.2 hs, placeIn_iff.2 hj]; rfl

def randBoth (a b j : Int) : Int := if seedIn a && placeIn j && (seedIn b && placeIn j) then (rnd a j + rnd b j) % 31 else 0
theorem iRandBoth (a b j : Int) (k : Nat) (hk : 1 ≤ k) : impl_RandBoth.f k a b j = some (randBoth a b j) := by
  obtain ⟨k, rfl⟩ : ∃ m, k = m + 1 := ⟨k - 1, by omega⟩
  unfold impl_RandBoth.f randBoth
  rw [drawOk_eq, drawOk_eq]
  cases h : (seedIn a && placeIn j)
  · simp only [Option.bind_some, Bool.false_eq_true, if_false, impl_RandBoth.j0, if_true, Bool.false_and]
  simp only [Option.bind_some, if_true]
  cases h' : (seedIn b && placeIn j)
  · simp only [Bool.not_false, Bool.false_eq_true, if_false, impl_RandBoth.j0, if_true, Bool.and_false]
  simp only [Bool.not_true, Bool.false_eq_true, if_false, impl_RandBoth.j0, if_true, Bool.and_true]
  simp only [Bool.and_eq_true] at h h'
  rw [iRandAt, iRandAt, randAt_in (seedIn_iff.1 h.1) (placeIn_iff.1 h.2), randAt_in (seedIn_iff.1 h'.1) (placeIn_iff.1 h'.2)]
  simp only [Option.bind_some, iFieldSum, fsum_ok (rnd_ok _ _) (rnd_ok _ _)]
theorem sRandBoth (a b j : Int) (k : Nat) (hk : 1 ≤ k) : spec_RandBoth.f k a b j = some (randBoth a b j) := by
  obtain ⟨k, rfl⟩ : ∃ m, k = m + 1 := ⟨k - 1, by omega⟩
  unfold spec_RandBoth.f randBoth
  rw [l4Seed_eq, l4Seed_eq]
  cases h : (seedIn a && placeIn j)
  · simp only [Option.bind_some, Bool.false_eq_true, if_false, spec_RandBoth.j0, if_true, Bool.false_and]
  simp only [Option.bind_some, if_true]
  cases h' : (seedIn b && placeIn j)
  · simp only [Bool.not_false, Bool.false_eq_true, if_false, spec_RandBoth.j0, if_true, Bool.and_false]
  simp only [Bool.not_true, Bool.false_eq_true, if_false, spec_RandBoth.j0, if_true, Bool.and_true]
  simp only [Bool.and_eq_true] at h h'
  rw [l4At_eq (seedIn_iff.1 h.1) (placeIn_iff.1 h.2), l4At_eq (seedIn_iff.1 h'.1) (placeIn_iff.1 h'.2)]
  simp only [Option.bind_some, sFieldSum, fsum_ok (rnd_ok _ _) (rnd_ok _ _)]

end Go.Proofs.Ytpdkdckkhjancaa.P
