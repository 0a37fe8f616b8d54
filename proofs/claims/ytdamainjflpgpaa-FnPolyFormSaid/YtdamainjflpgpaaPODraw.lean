/- The list that the law on a polynomial's form draws from a code: at most 10 long. Condition: the code holds bytes. -/
import Derived.Test.YtdamainjflpgpaaPDraw
import Derived.Test.YtdamainjflpgpaaPx13
namespace Go.Proofs.Ytdamainjflpgpaa.P
open Go.RowKit Go.Proofs.Ytdamainjflpgpaa.Num Go.Proofs.YtdamainjflpgpaaW.PrintWords

theorem drawPolyOk_ev {l : List Int} (h : Bytes l) : ∃ p, Ev (fun k => spec_DrawPolyOk.f k l) p ∧ p.length ≤ 10 := by
  obtain ⟨c, ho, hb, hl⟩ := open_ev h
  obtain ⟨p, q, ⟨K, e⟩, h1, h2, h3⟩ := list_ev (c := c) (p := 0) 10 (by omega) ⟨hb, hl, by omega, by omega⟩ (by omega)
  change ∀ k, K ≤ k → spec_l91List.f k c 0 10 = _ at e
  have hq : Rd c q := ⟨hb, hl, by omega, by omega⟩
  by_cases hp : (p.length : Int) > 0
  · obtain ⟨v1, e1, a1, b1⟩ := pick_ev hq (n := 4) (by omega)
    have hq1 := hq.next (by omega)
    obtain ⟨v2, e2, a2, b2⟩ := pick_ev hq1 (n := (p.length : Int)) (by omega)
    obtain ⟨v3, e3, a3, b3⟩ := pick_ev (hq1.next (by omega)) (n := 40) (by omega)
    by_cases c0 : v1 = 0
    · refine ⟨p.set v2.toNat (v3 - 4), ⟨K + 2, fun k hk => ?_⟩, by simpa using h1⟩
      obtain ⟨k, rfl⟩ : ∃ m, k = m + 2 := ⟨k - 2, by omega⟩
      dsimp only
      unfold spec_DrawPolyOk.f
      rw [ho]; simp only [Option.bind_some]
      rw [e _ (by omega)]; simp only [Option.bind_some]
      rw [if_pos hp, e1 _ (by omega)]; simp only [Option.bind_some]
      rw [beq_iff_eq.2 c0, show k + 2 = (k + 1) + 1 by omega, spec_DrawPolyOk.j0, if_pos rfl, e2 _ (by omega)]; simp only [Option.bind_some]
      rw [e3 _ (by omega)]; simp only [Option.bind_some]
      rw [if_pos a2, if_pos b2, w64 (by omega)]
    · refine ⟨p, ⟨K + 2, fun k hk => ?_⟩, h1⟩
      obtain ⟨k, rfl⟩ : ∃ m, k = m + 2 := ⟨k - 2, by omega⟩
      dsimp only
      unfold spec_DrawPolyOk.f
      rw [ho]; simp only [Option.bind_some]
      rw [e _ (by omega)]; simp only [Option.bind_some]
      rw [if_pos hp, e1 _ (by omega)]; simp only [Option.bind_some]
      rw [beq_eq_false_iff_ne.2 c0, show k + 2 = (k + 1) + 1 by omega, spec_DrawPolyOk.j0, if_neg (by simp)]
  · refine ⟨p, ⟨K + 2, fun k hk => ?_⟩, h1⟩
    obtain ⟨k, rfl⟩ : ∃ m, k = m + 2 := ⟨k - 2, by omega⟩
    dsimp only
    unfold spec_DrawPolyOk.f
    rw [ho]; simp only [Option.bind_some]
    rw [e _ (by omega)]; simp only [Option.bind_some]
    rw [if_neg hp, show k + 2 = (k + 1) + 1 by omega, spec_DrawPolyOk.j0, if_neg (by simp)]

end Go.Proofs.Ytdamainjflpgpaa.P
