/- The product of three drawn polynomials is the same from either side. No condition. -/
import Derived.Test.YtdamainjflpgpaaPolyMul
import Derived.Test.YtdamainjflpgpaaPDraw
import Derived.Test.YtdamainjflpgpaaSome
import Derived.Test.YtdamainjflpgpaaPx22
namespace Go.Proofs.Ytdamainjflpgpaa.Pure
open Go.RowKit Go.Proofs.Ytdamainjflpgpaa.P Go.Proofs.Ytdamainjflpgpaa.Num Go.Proofs.YtdamainjflpgpaaW.PrintWords Go.Proofs.YtdamainjflpgpaaW.PrintLast
set_option linter.unusedSimpArgs false
set_option linter.unusedVariables false

theorem polyMul_iff {a b r : List Int} (h : polyMul a b = (r, true)) : polyOk a = true ∧ polyOk b = true ∧ r = prod a b := by
  unfold polyMul mulOk at h
  split at h
  · rename_i h1
    simp only [Bool.and_eq_true] at h1
    exact ⟨h1.1.1, h1.1.2, (Prod.mk.inj h).1.symm⟩
  · exact absurd (Prod.mk.inj h).2 (by simp)
theorem FnMulThree : laws_FnMulThree.Pure := by
  intro l m h0 _ hb h1 _ _
  unfold laws_FnMulThree.f
  by_cases h : (l.length : Int) > 1048576
  · exact ⟨1, by rw [if_pos h]; rfl⟩
  by_cases h' : (m.length : Int) > 1048576
  · exact ⟨1, by rw [if_neg h, decide_eq_true h']; rfl⟩
  obtain ⟨a, b, ⟨K1, e1⟩, hla, hlb⟩ := drawPolyMul_ev (bytes_of hb)
  obtain ⟨r, ok, e⟩ : ∃ r ok, polyMul a b = (r, ok) := ⟨_, _, rfl⟩
  have hr : r.length ≤ 9 := by have := polyMul_fst_len a b; rw [e] at this; exact this
  obtain ⟨K2, e2⟩ := sPolyMul a b (by omega) (by omega)
  obtain ⟨K3, e3⟩ := iPolyMul a b
  obtain ⟨K4, e4⟩ := loInts_ev r r (by omega)
  obtain ⟨c, ⟨K5, e5⟩, hc, -⟩ := loSome_ev (m.length : Int) (by omega) (m.length % 3) (by omega)
  obtain ⟨r1, o1, f1⟩ : ∃ rr oo, polyMul r c = (rr, oo) := ⟨_, _, rfl⟩
  obtain ⟨r2, o2, f2⟩ : ∃ rr oo, polyMul b c = (rr, oo) := ⟨_, _, rfl⟩
  obtain ⟨r3, o3, f3⟩ : ∃ rr oo, polyMul a r2 = (rr, oo) := ⟨_, _, rfl⟩
  have hr1 : r1.length ≤ 9 := by have := polyMul_fst_len r c; rw [f1] at this; exact this
  obtain ⟨K6, e6⟩ := iPolyMul r c
  obtain ⟨K7, e7⟩ := iPolyMul b c
  obtain ⟨K8, e8⟩ := iPolyMul a r2
  obtain ⟨K9, e9⟩ := loInts_ev r1 r3 (by omega)
  dsimp only at e1 e2 e3 e4 e5 e6 e7 e8 e9
  rw [e] at e2 e3
  rw [f1] at e6
  rw [f2] at e7
  rw [f3] at e8
  refine ⟨K1 + K2 + K3 + K4 + K5 + K6 + K7 + K8 + K9 + 2, ?_⟩
  rw [if_neg h, decide_eq_false h', show K1 + K2 + K3 + K4 + K5 + K6 + K7 + K8 + K9 + 2 = (K1 + K2 + K3 + K4 + K5 + K6 + K7 + K8 + K9 + 1) + 1 by omega, laws_FnMulThree.j0, if_neg (by simp), e1 _ (by omega)]
  simp only [Option.bind_some]
  rw [e2 _ (by omega), e3 _ (by omega)]
  simp only [Option.bind_some, bne_self_eq_false, Bool.false_eq_true, if_false]
  rw [e4 _ (by omega)]
  simp only [Option.bind_some, decide_true, if_true]
  rw [laws_FnMulThree.j1]
  cases ok
  · rw [if_pos (by rfl), if_pos (by rfl), e4 _ (by omega)]; simp
  rw [if_neg (by simp), show ((m.length : Int) % 3) = ((m.length % 3 : Nat) : Int) by omega, e5 _ (by omega)]
  simp only [Option.bind_some]
  rw [e6 _ (by omega)]
  simp only [Option.bind_some]
  rw [e7 _ (by omega)]
  simp only [Option.bind_some]
  rw [e8 _ (by omega)]
  simp only [Option.bind_some]
  cases o1
  · simp
  cases o2
  · simp
  cases o3
  · simp
  simp only [if_true]
  rw [e9 _ (by omega)]
  obtain ⟨pa, pb, rfl⟩ := polyMul_iff e
  obtain ⟨_, pc, rfl⟩ := polyMul_iff f1
  obtain ⟨_, _, rfl⟩ := polyMul_iff f2
  obtain ⟨_, _, rfl⟩ := polyMul_iff f3
  rw [prod_assoc (polyOk_iff.1 pa).1 (polyOk_iff.1 pb).1 (polyOk_iff.1 pc).1]
  simp

end Go.Proofs.Ytdamainjflpgpaa.Pure
