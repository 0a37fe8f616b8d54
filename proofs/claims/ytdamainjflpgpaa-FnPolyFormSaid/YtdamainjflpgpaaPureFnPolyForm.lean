/- A drawn polynomial's head is one, and with -1 behind is none. No condition. -/
import Derived.Test.YtdamainjflpgpaaPolyOk
import Derived.Test.YtdamainjflpgpaaPODraw
import Derived.Test.YtdamainjflpgpaaPx14
namespace Go.Proofs.Ytdamainjflpgpaa.Pure
open Go.RowKit Go.Proofs.Ytdamainjflpgpaa.P Go.Proofs.Ytdamainjflpgpaa.Num Go.Proofs.YtdamainjflpgpaaW.PrintWords Go.Proofs.YtdamainjflpgpaaW.PrintLast
set_option linter.unusedSimpArgs false
set_option linter.unusedVariables false

theorem polyOk_take {p : List Int} (h : polyOk p = true) (n : Nat) : polyOk (p.take n) = true := by
  obtain ⟨h1, h2⟩ := polyOk_iff.1 h
  exact polyOk_iff.2 ⟨allOk_iff.2 fun x hx => allOk_iff.1 h1 x (List.mem_of_mem_take hx), by simp; omega⟩
theorem polyOk_neg (p : List Int) : polyOk (p ++ [-1]) = false := by
  cases h : polyOk (p ++ [-1])
  · rfl
  · have := okF_iff.1 (allOk_iff.1 (polyOk_iff.1 h).1 (-1) (by simp))
    omega
theorem FnPolyForm : laws_FnPolyForm.Pure := by
  intro l m h0 _ hb h1 _ _
  unfold laws_FnPolyForm.f
  by_cases h : (l.length : Int) > 1048576
  · exact ⟨1, by rw [if_pos h]; rfl⟩
  by_cases h' : (m.length : Int) > 1048576
  · exact ⟨1, by rw [if_neg h, decide_eq_true h']; rfl⟩
  obtain ⟨p, ⟨K1, e1⟩, hp⟩ := drawPolyOk_ev (bytes_of hb)
  obtain ⟨K2, e2⟩ := sPolyOk p (by omega)
  dsimp only at e1 e2
  refine ⟨K1 + K2 + 3, ?_⟩
  rw [if_neg h, decide_eq_false h', show K1 + K2 + 3 = (K1 + K2 + 2) + 1 by omega, laws_FnPolyForm.j0, if_neg (by simp), e1 _ (by omega)]
  simp only [Option.bind_some]
  rw [iPolyOk, e2 _ (by omega)]
  simp only [Option.bind_some, bne_self_eq_false, Bool.false_eq_true, if_false]
  rw [show K1 + K2 + 2 = (K1 + K2 + 1) + 1 by omega, laws_FnPolyForm.j1]
  cases hk : polyOk p
  · rw [if_pos (by rfl), e2 _ (by omega), hk]; rfl
  · rw [if_neg (by simp), w64 (by omega), if_neg (by omega)]
    have hn : m.length % (p.length + 1) ≤ p.length := by have := Nat.mod_lt m.length (show p.length + 1 > 0 by omega); omega
    have em : (m.length : Int) % ((p.length : Int) + 1) = ((m.length % (p.length + 1) : Nat) : Int) := by rw [Int.natCast_emod]; rfl
    rw [em, if_pos (by omega), if_pos (by omega), Int.toNat_natCast, iPolyOk, polyOk_take hk]
    simp only [Option.bind_some, if_true, List.nil_append, List.length_nil]
    have hlt : (p.take (m.length % (p.length + 1))).length < 17592186044416 := by simp; omega
    rw [if_pos (by omega), if_pos hlt, iPolyOk, polyOk_neg]
    simp only [Option.bind_some, Bool.false_eq_true, if_false]
    have := (polyOk_iff.1 hk).2
    rw [decide_eq_true (by omega)]

end Go.Proofs.Ytdamainjflpgpaa.Pure
