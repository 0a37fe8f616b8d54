/- The program's RandVec answers as the reference, at every two numbers; what it hands back is nobody else's. No condition. -/
import Derived.Test.YtpdkdckkhjancaaRand
import Derived.Test.YtpdkdckkhjancaaList
import Derived.Test.YtpdkdckkhjancaaRVec
import Derived.Test.YtpdkdckkhjancaaPx5
namespace Go.Proofs.Ytpdkdckkhjancaa.Pure
open Go.RowKit Go.Proofs.Ytpdkdckkhjancaa.P Go.Proofs.Ytpdkdckkhjancaa.Num Go.Proofs.YtpdkdckkhjancaaW.PrintWords Go.Proofs.YtpdkdckkhjancaaW.PrintLast
set_option linter.unusedSimpArgs false
set_option linter.unusedVariables false

theorem FnExactRandVec : laws_FnExactRandVec.Pure := by
  intro a b _ _
  obtain ⟨l, ok, hl, e⟩ : ∃ l ok, l.length ≤ 20 ∧ (if seedIn a && placeIn b then (drawn a b.toNat, true) else ([], false)) = (l, ok) := by
    cases h : (seedIn a && placeIn b)
    · exact ⟨[], false, by simp, rfl⟩
    · simp only [Bool.and_eq_true] at h
      exact ⟨_, _, by rw [drawn_length]; have := placeIn_iff.1 h.2; omega, rfl⟩
  have hv : impl_RandVec.f a b = some (l, ok) := by unfold impl_RandVec.f; rw [e]
  obtain ⟨K1, h1⟩ := sRandVec a b
  rw [e] at h1
  obtain ⟨K2, h2⟩ := eqIntS_ev l l (by omega)
  obtain ⟨K3, h3⟩ := markIntS_ev l 1 (by omega) (by omega)
  obtain ⟨K4, h4⟩ := heldIntS_ev l.length 1 (by omega) (by omega)
  dsimp only at h1 h2 h3 h4
  refine ⟨K1 + K2 + K3 + K4 + 5, ?_⟩
  unfold laws_FnExactRandVec.f
  rw [h1 _ (by omega), hv]
  simp only [Option.bind_some]
  rw [h2 _ (by omega)]
  simp only [Option.bind_some, decide_true, if_true, bne_self_eq_false, laws_FnExactRandVec.j0, Bool.false_eq_true, if_false]
  rw [h3 _ (by omega)]
  simp only [Option.bind_some]
  rw [h4 _ (by omega)]
  simp only [Option.bind_some]
  rw [if_neg (by omega), if_pos trivial, hv]
  simp only [Option.bind_some]
  rw [h2 _ (by omega)]
  simp only [Option.bind_some, decide_true, if_true, bne_self_eq_false, laws_FnExactRandVec.j1, Bool.false_eq_true, if_false]
  rw [h4 _ (by omega)]
  simp only [Option.bind_some]
  rw [if_neg (by omega), if_pos trivial]

end Go.Proofs.Ytpdkdckkhjancaa.Pure
