/- The product of two drawn polynomials is at each place the product of both, in either order. No condition. -/
import Derived.Test.YtdamainjflpgpaaPolyMul
import Derived.Test.YtdamainjflpgpaaPDraw
import Derived.Test.YtdamainjflpgpaaPx23
namespace Go.Proofs.Ytdamainjflpgpaa.Pure
open Go.RowKit Go.Proofs.Ytdamainjflpgpaa.P Go.Proofs.Ytdamainjflpgpaa.Num Go.Proofs.YtdamainjflpgpaaW.PrintWords Go.Proofs.YtdamainjflpgpaaW.PrintLast
set_option linter.unusedSimpArgs false
set_option linter.unusedVariables false

theorem FnPolyMul : laws_FnPolyMul.Pure := by
  intro l l1 _ _ hb _ _ _
  unfold laws_FnPolyMul.f
  by_cases h : (l.length : Int) > 1048576
  · exact ⟨1, by rw [if_pos h]; rfl⟩
  obtain ⟨a, b, ⟨K1, h1⟩, hla, hlb⟩ := drawPolyMul_ev (bytes_of hb)
  obtain ⟨r, ok, e⟩ : ∃ r ok, polyMul a b = (r, ok) := ⟨_, _, rfl⟩
  have hr : r.length ≤ 9 := by have := polyMul_fst_len a b; rw [e] at this; exact this
  obtain ⟨K2, h2⟩ := sPolyMul a b (by omega) (by omega)
  obtain ⟨K3, h3⟩ := iPolyMul a b
  obtain ⟨K4, h4⟩ := loInts_ev r r (by omega)
  obtain ⟨K5, h5⟩ := sPolyOk a (by omega)
  obtain ⟨K6, h6⟩ := sPolyOk b (by omega)
  obtain ⟨K7, h7⟩ := iPolyMul b a
  dsimp only at h1 h2 h3 h4 h5 h6 h7
  rw [e] at h2 h3
  by_cases hl1 : (l1.length : Int) > 1048576
  · exact ⟨1, by rw [if_neg h, decide_eq_true hl1]; rfl⟩
  have hend : ∀ k, K4 ≤ k → laws_FnPolyMul.j1 (k + 1) l1 a b r ok r ok true = some true := fun k hk => by
    simp only [laws_FnPolyMul.j1, if_true, beq_self_eq_true]; rw [h4 _ hk]; simp
  refine ⟨K1 + K2 + K3 + K4 + K5 + K6 + K7 + 5, ?_⟩
  rw [if_neg h, decide_eq_false hl1]
  simp only [laws_FnPolyMul.j0, Bool.false_eq_true, if_false]
  rw [h1 _ (by omega)]
  simp only [Option.bind_some]
  rw [h2 _ (by omega), h3 _ (by omega)]
  simp only [Option.bind_some, bne_self_eq_false, Bool.false_eq_true, if_false]
  rw [h4 _ (by omega)]
  simp only [Option.bind_some, decide_true, if_true]
  rw [h5 _ (by omega)]
  simp only [Option.bind_some]
  cases ha : polyOk a
  · simp only [Bool.false_eq_true, if_false]; exact hend _ (by omega)
  simp only [if_true]
  rw [h6 _ (by omega)]
  simp only [Option.bind_some]
  cases hb2 : polyOk b
  · simp only [Bool.not_false]; exact hend _ (by omega)
  obtain ⟨pa, la⟩ := polyOk_iff.1 ha
  obtain ⟨pb, lb⟩ := polyOk_iff.1 hb2
  have hpl := prod_length a b
  simp only [Bool.not_true, laws_FnPolyMul.j1, Bool.false_eq_true, if_false]
  cases hm : mulOk a b
  · have e2 : ok = false := by have := e; unfold polyMul at this; rw [hm] at this; simp at this; exact this.2
    rw [e2]
    simp only [Bool.false_eq_true, if_false]
    have hgt : ¬ (prod a b).length ≤ 9 := by unfold mulOk at hm; rw [ha, hb2] at hm; simpa using hm
    rw [w64 (n := (a.length : Int) + (b.length : Int)) (by omega), w64 (by omega), decide_eq_true]
    split at hpl <;> omega
  · have e2 : r = prod a b ∧ ok = true := by have := e; unfold polyMul at this; rw [hm] at this; simp at this; exact ⟨this.1.symm, this.2⟩
    obtain ⟨rfl, rfl⟩ := e2
    simp only [if_true]
    rw [loNum_eq (by omega)]
    obtain ⟨x, hx⟩ : ∃ x : Int, (l1.length : Int) % 31 = x := ⟨_, rfl⟩
    have hxo : okF x = true := by rw [← hx]; exact okF_mod _
    simp only [hx, Option.bind_some]
    rw [h7 _ (by omega)]
    have hpo : polyOk (prod a b) = true := polyOk_iff.2 ⟨prod_ok a b, hr⟩
    have hba : polyMul b a = (prod a b, true) := by
      unfold polyMul mulOk
      rw [ha, hb2, prod_comm pb pa, decide_eq_true hr]; rfl
    rw [hba]
    simp only [Option.bind_some, iPolyAt, iFieldMul]
    rw [polyAt_ok hpo hxo, polyAt_ok ha hxo, polyAt_ok hb2 hxo, fmul_ok (okF_mod _) (okF_mod _), prod_ev, ← Int.mul_emod]
    simp only [if_true]
    rw [h4 _ (by omega)]
    simp

end Go.Proofs.Ytdamainjflpgpaa.Pure
