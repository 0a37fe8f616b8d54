/- The draws of a seed in a row: of the reference, the same as the program's. No condition. -/
import Derived.Test.YtpdkdckkhjancaaRand
import Derived.Test.YtpdkdckkhjancaaList
import Derived.Test.YtpdkdckkhjancaaPx10
import Derived.Test.YtpdkdckkhjancaaPx3
import Derived.Test.YtpdkdckkhjancaaPx6
namespace Go.Proofs.Ytpdkdckkhjancaa.P
open Go.RowKit Go.Proofs.Ytpdkdckkhjancaa.Num Go.Proofs.YtpdkdckkhjancaaW.PrintWords

theorem drawn_rnd {s : Int} {m : Nat} (hs : seedIn s = true) (hm : m ≤ 20) : drawn s m = (List.range m).map fun j : Nat => rnd s (j : Int) := by
  unfold drawn
  apply List.map_congr_left
  intro j hj
  exact rndI_eq (seedIn_iff.1 hs) (by have := List.mem_range.1 hj; omega)

theorem l4Vec_loop {s : Int} (hs : seedIn s = true) (m : Nat) (hm : m ≤ 20) (d : Nat) : ∀ i : Nat, i + d = m → Ev (fun k => spec_l4Vec.l0 k s (m : Int) (drawn s i) (i : Int)) (drawn s m) := by
  induction d with
  | zero =>
    intro i hi
    obtain rfl : i = m := by omega
    refine ⟨1, fun k hk => ?_⟩
    obtain ⟨k, rfl⟩ : ∃ m, k = m + 1 := ⟨k - 1, by omega⟩
    simp only [spec_l4Vec.l0]
    rw [if_neg (by omega)]
  | succ d ih =>
    intro i hi
    obtain ⟨K, h⟩ := ih (i + 1) (by omega)
    refine ⟨K + 1, fun k hk => ?_⟩
    obtain ⟨k, rfl⟩ : ∃ m, k = m + 1 := ⟨k - 1, by omega⟩
    simp only [spec_l4Vec.l0]
    rw [if_pos (by omega), l4At_eq (seedIn_iff.1 hs) (by omega)]
    simp only [Option.bind_some]
    rw [if_pos (by rw [drawn_length]; omega), w64 (by omega), ← rndI_eq (seedIn_iff.1 hs) (by omega), ← drawn_succ]
    exact h k (by omega)

theorem sRandVec (s m : Int) : Ev (fun k => spec_RandVec.f k s m) (if seedIn s && placeIn m then (drawn s m.toNat, true) else ([], false)) := by
  unfold spec_RandVec.f
  rw [l4Seed_eq]
  simp only [Option.bind_some]
  cases h : (seedIn s && placeIn m)
  · exact ⟨0, fun k _ => by simp⟩
  · simp only [Bool.and_eq_true] at h
    have hm := placeIn_iff.1 h.2
    obtain ⟨n, rfl⟩ := Int.eq_ofNat_of_zero_le hm.1
    obtain ⟨K, hK⟩ := l4Vec_loop h.1 n (by omega) n 0 (by omega)
    refine ⟨K, fun k hk => ?_⟩
    dsimp only
    rw [if_pos rfl, if_pos rfl, spec_l4Vec.f]
    have := hK k hk
    dsimp only at this
    rw [show drawn s 0 = [] from rfl] at this
    rw [show (0 : Int) = ((0 : Nat) : Int) from rfl, this, Int.toNat_natCast]; rfl

end Go.Proofs.Ytpdkdckkhjancaa.P
