/- Times 1 a drawn polynomial is the same; times none it is none; times the second power's base it is one longer, with 0 at its head, if that is not too long. No condition. -/
import Derived.Test.YtdamainjflpgpaaPolyMul
import Derived.Test.YtdamainjflpgpaaPDraw
import Derived.Test.YtdamainjflpgpaaPx18
namespace Go.Proofs.Ytdamainjflpgpaa.Pure
open Go.RowKit Go.Proofs.Ytdamainjflpgpaa.P Go.Proofs.Ytdamainjflpgpaa.Num Go.Proofs.YtdamainjflpgpaaW.PrintWords Go.Proofs.YtdamainjflpgpaaW.PrintLast
set_option linter.unusedSimpArgs false
set_option linter.unusedVariables false

theorem polyMul_yes {a b : List Int} (ha : polyOk a = true) (hb : polyOk b = true) (h : (prod a b).length ≤ 9) : polyMul a b = (prod a b, true) := by
  unfold polyMul mulOk; rw [ha, hb, decide_eq_true h]; rfl
theorem polyMul_no {a b : List Int} (h : ¬ (prod a b).length ≤ 9) : polyMul a b = ([], false) := by
  unfold polyMul mulOk; rw [decide_eq_false h, Bool.and_false]; rfl
theorem FnMulOne : laws_FnMulOne.Pure := by
  intro l _ _ hb
  unfold laws_FnMulOne.f
  by_cases h : (l.length : Int) > 1048576
  · exact ⟨1, by rw [if_pos h]⟩
  obtain ⟨a, b, ⟨K1, h1⟩, hla, hlb⟩ := drawPolyMul_ev (bytes_of hb)
  obtain ⟨r, ok, e⟩ : ∃ r ok, polyMul a b = (r, ok) := ⟨_, _, rfl⟩
  have hr : r.length ≤ 9 := by have := polyMul_fst_len a b; rw [e] at this; exact this
  obtain ⟨K2, h2⟩ := sPolyMul a b (by omega) (by omega)
  obtain ⟨K3, h3⟩ := iPolyMul a b
  obtain ⟨K4, h4⟩ := loInts_ev r r (by omega)
  obtain ⟨K5, h5⟩ := sPolyOk a (by omega)
  obtain ⟨K6, h6⟩ := iPolyMul a [1]
  obtain ⟨K7, h7⟩ := iPolyMul a []
  obtain ⟨K8, h8⟩ := iPolyMul a [0, 1]
  obtain ⟨K9, h9⟩ := loInts_ev a a (by omega)
  obtain ⟨K10, h10⟩ := loInts_ev (0 :: a) (0 :: a) (by simp; omega)
  dsimp only at h1 h2 h3 h4 h5 h6 h7 h8 h9 h10
  rw [e] at h2 h3
  refine ⟨K1 + K2 + K3 + K4 + K5 + K6 + K7 + K8 + K9 + K10 + 5, ?_⟩
  rw [if_neg h, h1 _ (by omega)]
  simp only [Option.bind_some]
  rw [h2 _ (by omega), h3 _ (by omega)]
  simp only [Option.bind_some, bne_self_eq_false, Bool.false_eq_true, if_false]
  rw [h4 _ (by omega)]
  simp only [Option.bind_some, decide_true, if_true]
  rw [h5 _ (by omega)]
  simp only [Option.bind_some]
  cases ha : polyOk a
  · simp only [Bool.not_false, laws_FnMulOne.j0, if_true, beq_self_eq_true]
    rw [h4 _ (by omega)]; simp
  obtain ⟨pa, la⟩ := polyOk_iff.1 ha
  have m1 : polyMul a [1] = (a, true) := by rw [polyMul_yes ha rfl (by rw [prod_one pa]; exact la), prod_one pa]
  have m2 : polyMul a [] = ([], true) := by
    have : prod a [] = [] := by unfold prod; rw [if_pos (.inr rfl)]
    rw [polyMul_yes ha rfl (by rw [this]; simp), this]
  simp only [Bool.not_true, laws_FnMulOne.j0, Bool.false_eq_true, if_false]
  rw [h6 _ (by omega), h7 _ (by omega), h8 _ (by omega), m1, m2]
  simp only [Option.bind_some, if_true]
  rw [h9 _ (by omega)]
  simp only [Option.bind_some, decide_true, if_true, List.length_nil]
  rw [if_pos (by rfl)]
  by_cases h0 : a.length = 0
  · have hn := List.eq_nil_of_length_eq_zero h0
    subst hn
    have m3 : polyMul [] [0, 1] = ([], true) := rfl
    rw [m3]
    simp
  · have hp : prod a [0, 1] = 0 :: a := prod_shift pa h0
    have m3 : polyMul a [0, 1] = (0 :: a, true) := by rw [polyMul_yes ha rfl (by rw [hp]; simp; omega), hp]
    rw [m3, decide_eq_true (by omega : (a.length : Int) < 9)]
    simp only [beq_self_eq_true, if_true]
    rw [if_neg (by omega)]
    rw [if_pos (by simp; omega)]
    simp only [List.cons_append, List.nil_append]
    rw [h10 _ (by omega)]
    simp

end Go.Proofs.Ytdamainjflpgpaa.Pure
